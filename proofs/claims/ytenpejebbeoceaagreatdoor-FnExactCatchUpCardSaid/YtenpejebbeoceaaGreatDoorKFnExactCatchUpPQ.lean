/- Texts that belong together,joined by claimit.py. -/
import Derived.Test.YtenpejebbeoceaaGreatDoorKFnExactCatchUpW
import Derived.Test.YtenpejebbeoceaaGreatDoorJFnExactCatchUp0
import Derived.Test.YtenpejebbeoceaaGreatDoorJFnExactCatchUp1
import Derived.Test.YtenpejebbeoceaaGreatDoorJFnExactCatchUp2
import Derived.Test.YtenpejebbeoceaaGreatDoorJFnExactCatchUp3
section
set_option linter.unusedVariables false
set_option linter.unusedSimpArgs false
namespace Go.Proofs.YtenpejebbeoceaaGreatDoor.PL
open Go.RowKit Go.Proofs.YtenpejebbeoceaaGreatDoor.Pp Go.Proofs.YtenpejebbeoceaaGreatDoor.PB Go.Proofs.YtenpejebbeoceaaGreatDoorW.PrintWords Go.Proofs.YtenpejebbeoceaaGreatDoorW.PrintLast
def inR (a b c:Int):Bool:=decide (b≤a∧a≤c)
theorem l1In_eq (a b c:Int):bY_.f a b c=some (inR a b c):=by
 unfold bY_.f inR
 by_cases h:a≥b
 ·rw[if_pos h];simp[h]
 ·rw[if_neg h];simp;omega
theorem within_eq (a b c:Int):cd_.f a b c=some (inR a b c):=by
 unfold cd_.f inR
 by_cases h:a≥b
 ·rw[if_pos h];simp[h]
 ·rw[if_neg h];simp;omega
theorem ay_.idx (l0:List ByteArray) (q:ByteArray→Bool) (hl:l0.length≤1048576) (h:∀x∈l0,Ev (fun k=>impl_GoodName_1.f x) (q x)):Ev (fun k=>ay_.f k l0 ) (idxP q l0):=by
 unfold ay_.f
 refine Ev.eq_ (a4_ l0 (fun k (_:Nat) i=>ay_.l0 k l0 (l0.length:Int) i) (fun n t=>if 0≤idxP q t then(n:Int)+idxP q t else -1) (fun p n=>n=p.length) ?_ ?_ 0 rfl) ?_
 ·intro n hn
  apply Ev.succ
  simp only[ay_.l0]
  exact Ev.neg (by omega) (Ev.const (by simp[idxP]))
 ·intro p x t n e hn ih
  have hm:=bc_ e
  have hx:=h x (b5_ e)
  apply Ev.succ
  simp only[ay_.l0,rdOf_mid e]
  refine Ev.pos hm.1 (Ev.pos (by omega) (Ev.pos hm.1 (Ev.bind' _ hx ?_)))
  have hq:idxP q (x::t)=(if q x then 0 else if 0≤idxP q t then idxP q t+1 else -1):=rfl
  rw[hq]
  cases q x with
  | true=>exact Ev.aK_ (Ev.const (by simp[hn]))
  | false =>
   refine Ev.aG_ ?_
   rw[w64 (by omega) (by omega)]
   refine Ev.eq_ (ih (n+1) (by simp[hn])) ?_
   by_cases h2:0≤idxP q t
   ·simp[h2];omega
   ·simp[h2]
 ·by_cases h2:0≤idxP q l0
  ·simp[h2]
  ·rw[if_neg h2]
   exact(idxP_neg q l0 h2).symm
theorem a7_.any (l0:List ByteArray) (q:ByteArray→Bool) (hl:l0.length≤1048576) (h:∀x∈l0,Ev (fun k=>impl_GoodName_1.f x) (q x)):Ev (fun k=>a7_.f k l0 ) (l0.any q):=by
 unfold a7_.f
 refine Ev.bind' _ (ay_.idx l0  q hl h) (Ev.const ?_)
 rw[idxP_nonneg]
def okB (b:UInt8):Bool:=(decide (97≤(b.toNat:Int))&&decide ((b.toNat:Int)≤122))||(decide (48≤(b.toNat:Int))&&decide ((b.toNat:Int)≤57))||decide ((b.toNat:Int)=45)||decide ((b.toNat:Int)=95)
def labelOk (s:ByteArray):Bool:=decide (bts s=[42])||((bts s).all okB&&inR (bts s).length 1 20)
def labels (s:ByteArray):List ByteArray:=if bts s=[] then [] else splitC 46 [] (bts s)
def nameOk (s:ByteArray):Bool:=decide ((bts s).length≤60)&&decide ((labels s).length≤8)&&(labels s).all labelOk
theorem specSplit_eq (s:ByteArray) (hs:s.size≤1048576):Ev (fun k=>bv_.f k s 46) (splitC 46 [] (bts s)):=by
 unfold bv_.f
 have hz:=bq_ s
 refine Ev.eq_ (a4_ (bts s) (fun k (st:List ByteArray × Nat × List UInt8) i=>bv_.l0 k s 46 st.1 st.2.1 i) (fun st t=>st.1++splitC 46 st.2.2 t) (fun p st=>st.2.1≤p.length∧st.2.2=p.drop st.2.1∧st.1.length≤p.length) ?_ ?_ ([],0,[]) ⟨Nat.zero_le _,rfl,Nat.zero_le _⟩) (by simp)
 ·rintro⟨acc,fr,cur⟩ ⟨h1,h2,h3⟩
  apply Ev.succ
  simp only[bv_.l0]
  simp only at h1 h2 h3
  refine Ev.neg (by omega) (Ev.pos (by omega) (Ev.pos (by omega) (Ev.pos (by omega) (Ev.const ?_))))
  simp only[splitC]
  rw[extract_bts,h2]
  congr 4
  rw[List.take_of_length_le]
  ·simp
  ·simp[hz]
 ·rintro p b t ⟨acc,fr,cur⟩ e ⟨h1,h2,h3⟩ ih
  have hm:=bc_ e
  simp only at h1 h2 h3
  apply Ev.succ
  simp only[bv_.l0]
  refine Ev.pos (by omega) (Ev.pos (by omega) ?_)
  rw[bt_mid e,w64 (i:=(p.length:Int)+1) (by omega) (by omega)]
  by_cases hb:b=46
  ·subst hb
   refine Ev.pos (by decide) (Ev.pos (by omega) (Ev.pos (by omega) (Ev.pos (by omega) (Ev.pos (by omega) ?_))))
   have hx:s.extract ((fr:Nat):Int).toNat ((p.length:Nat):Int).toNat=⟨cur.toArray⟩:=by
    rw[extract_bts,h2]
    congr 2
    rw[e]
    simp only[Int.toNat_natCast]
    rw[List.drop_append_of_le_length h1,List.take_append_of_le_length (by simp),List.take_of_length_le (by simp)]
   rw[hx]
   have hc:((p.length:Int)+1)=(((p.length+1:Nat)):Int):=by omega
   refine Ev.eq_ (ih (acc++[⟨cur.toArray⟩],p.length+1,[]) ⟨by simp,by simp,by simp;omega⟩) ?_
   simp[splitC]
  ·have:¬((b.toNat:Int)=46):=by
    intro h
    apply hb
    apply UInt8.toNat_inj.mp
    have h46:(46:UInt8).toNat=46:=rfl
    omega
   refine Ev.neg this ?_
   refine Ev.eq_ (ih (acc,fr,cur++[b]) ⟨by simp;omega,?_,by simp;omega⟩) ?_
   ·simp only
    rw[h2,List.drop_append_of_le_length h1]
   ·simp[splitC,hb]
theorem genSplit_loop (n:Nat) (hn:n≤1048576):∀(m:Nat) (s:ByteArray) (A B:List ByteArray),s.size≤1048576→Go.Lib.countByte (bts s) 46=m→A.length+m=n→A.length+B.length=n+1 →
  Ev (fun k=>a0_.l0 k s (⟨#[46]⟩:ByteArray) 0 (n:Int) (A++B) (A.length:Int)) (A++splitC 46 [] (bts s))
 | 0,s,A,B,hs,hc,hA,hB=>by
  obtain⟨hnone,_⟩:=index_none _ _ hc
  apply Ev.succ
  simp only[a0_.l0]
  have hl:(A++B).length=n+1:=by simp;omega
  refine Ev.neg (by omega) (Ev.pos (by omega) (Ev.pos (by rw[hl];omega) ?_))
  rw[w64 (i:=(A.length:Int)+1) (by omega) (by omega)]
  refine Ev.pos (by omega) (Ev.pos (by rw[hl];omega) (Ev.const ?_))
  rw[splitC_none _ _ _ hnone]
  obtain⟨b,B',rfl⟩:∃b B',B=b::B':=by
   cases B with
   | nil=>simp at hB;omega
   | cons b B'=>exact⟨b,B',rfl⟩
  rw[set_mid]
  have:(((A.length:Int)+1)).toNat=(A++[s]).length:=by simp<;>omega
  rw[this,List.take_left']
  ·simp[mk_bts]
  ·rfl
 | m+1,s,A,B,hs,hc,hA,hB=>by
  obtain⟨pre,post,e,hm,hi,hc2⟩:=index_some (bts s) 46 (by omega)
  have hz:=bq_ s
  have hlen:(bts s).length=pre.length+(post.length+1):=by rw[e];simp
  apply Ev.succ
  simp only[a0_.l0]
  have hl:(A++B).length=n+1:=by simp;omega
  refine Ev.pos (by omega) (Ev.cbind (pre.length:Int) ?_ ?_)
  ·unfold cJ_.f
   rw[if_pos (by rfl)]
   exact congrArg some hi
  ·refine Ev.neg (by omega) ?_
   have hsz1:((⟨#[46]⟩:ByteArray).size:Int)=1:=rfl
   rw[hsz1,Int.add_zero,w64 (i:=(pre.length:Int)) (by omega) (by omega),w64 (i:=(pre.length:Int)+1) (by omega) (by omega),w64 (i:=(A.length:Int)+1) (by omega) (by omega)]
   refine Ev.pos (by omega) (Ev.pos (by omega) (Ev.pos (by omega) (Ev.pos (by rw[hl];omega) (Ev.pos (by omega) (Ev.pos (by omega) ?_)))))
   obtain⟨b,B',rfl⟩:∃b B',B=b::B':=by
    cases B with
    | nil=>simp at hB;omega
    | cons b B'=>exact⟨b,B',rfl⟩
   rw[set_mid]
   have hx1:s.extract 0 ((pre.length:Int)).toNat=⟨pre.toArray⟩:=by
    rw[extract_bts]
    congr 2
    rw[e]
    simp
   have hx2:s.extract (((pre.length:Int)+1)).toNat s.size=⟨post.toArray⟩:=by
    rw[extract_bts]
    congr 2
    have e':bts s=(pre++[46])++post:=by simpa using e
    have h1:(((pre.length:Int)+1)).toNat=(pre++[46]).length:=by simp<;>omega
    rw[e',h1,List.drop_left,List.take_of_length_le]
    simp at hlen ⊢
    omega
   rw[hx1,hx2]
   have hb1:bts (⟨post.toArray⟩:ByteArray)=post:=ci_ post
   have hb2:(⟨post.toArray⟩:ByteArray).size=post.length:=by rw[bq_,hb1]
   have:=genSplit_loop n hn m ⟨post.toArray⟩ (A++[⟨pre.toArray⟩]) B' (by omega) (by rw[hb1];omega) (by simp;omega) (by simp at hB ⊢;omega)
   have hcast:(((A++[(⟨pre.toArray⟩:ByteArray)]).length:Nat):Int)=(A.length:Int)+1:=by simp
   rw[hcast] at this
   refine Ev.eq_ this ?_
   rw[hb1,e,splitC_pre _ _ _ _ hm]
   simp
theorem strSplit_eq (s:ByteArray) (hs:s.size≤1048576):Ev (fun k=>strings_Split.f k s (⟨#[46]⟩:ByteArray)) (splitC 46 [] (bts s)):=by
 unfold strings_Split.f a0_.f
 have hz:=bq_ s
 have hcl:=count_le (bts s) 46
 refine Ev.bind' _ (Ev.neg (by omega) (Ev.neg (by rw[bs_];decide) (Ev.pos (by omega) (Ev.cbind (Go.Lib.countByte (bts s) 46:Int) (by unfold strings_Count.f;rw[if_pos (by rfl)];rfl) ?_)))) (Ev.const rfl)
 apply Ev.succ
 simp only[a0_.j0]
 rw[w64 (i:=((Go.Lib.countByte (bts s) 46:Nat):Int)+1) (by omega) (by omega),w64 (i:=(s.size:Int)+1) (by omega) (by omega)]
 have hmn:mn (((Go.Lib.countByte (bts s) 46:Nat):Int)+1) ((s.size:Int)+1)=((Go.Lib.countByte (bts s) 46+1:Nat):Int):=by
  unfold mn
  split<;>omega
 rw[hmn]
 rw[w64 (i:=((Go.Lib.countByte (bts s) 46+1:Nat):Int) - 1) (by omega) (by omega)]
 refine Ev.pos (by omega) (Ev.pos (by omega) ?_)
 have h1:(((Go.Lib.countByte (bts s) 46+1:Nat):Int) - 1)=((Go.Lib.countByte (bts s) 46:Nat):Int):=by omega
 rw[h1]
 have:=genSplit_loop (Go.Lib.countByte (bts s) 46) (by omega) _ s [] (List.replicate ((Go.Lib.countByte (bts s) 46+1:Nat):Int).toNat (⟨#[]⟩:ByteArray)) hs rfl (by simp) (by simp)
 simpa using this
theorem okB_in (b:UInt8):([97,98,99,100,101,102,103,104,105,106,107,108,109,110,111,112,113,114,115,116,117,118,119,120,121,122,48,49,50,51,52,53,54,55,56,57,45,95]:List UInt8).contains b=okB b :=
 all8 (fun b=>([97,98,99,100,101,102,103,104,105,106,107,108,109,110,111,112,113,114,115,116,117,118,119,120,121,122,48,49,50,51,52,53,54,55,56,57,45,95]:List UInt8).contains b) okB (by decide +kernel) b
theorem isLabel_eq (s:ByteArray) (hs:s.size≤1048576):impl_isLabel.f s=some (labelOk s):=by
 have hz:=bq_ s
 unfold impl_isLabel.f labelOk
 rw[bs_]
 by_cases h:bts s=[42]
 ·rw[if_pos h];simp[h]
 ·rw[if_neg h,within_eq]
  simp only[Option.bind_some,h,decide_false,Bool.false_or]
  rw[hz]
  cases hr:inR ((bts s).length:Int) 1 20 with
  | false=>simp
  | true =>
   simp only[if_true,Bool.and_true]
   unfold strings_Trim.f
   rw[if_pos ⟨by omega,by decide,by decide +kernel⟩]
   simp only[Option.bind_some]
   congr 1
   rw[bs_,ci_,trimS_nil]
   congr 1
   funext b
   exact okB_in b
theorem specLabel_eq (s:ByteArray) (hs:s.size≤1048576):Ev (fun k=>bw_.f k s) (labelOk s):=by
 have hz:=bq_ s
 unfold bw_.f labelOk
 rw[bs_]
 by_cases h:bts s=[42]
 ·exact Ev.pos h (Ev.const (by simp[h]))
 ·refine Ev.neg h ?_
  refine Ev.eq_ (a4_ (bts s) (fun k (_:Unit) i=>bw_.l0 k s i) (fun _ t=>t.all okB&&inR (bts s).length 1 20) (fun _ _=>True) ?_ ?_ () trivial) (by simp[h])
  ·intro _ _
   apply Ev.succ
   simp only[bw_.l0]
   refine Ev.neg (by omega) (Ev.cbind _ (l1In_eq _ _ _) (Ev.const (by simp[hz])))
  ·intro p b t _ e _ ih
   have hm:=bc_ e
   apply Ev.succ
   simp only[bw_.l0]
   refine Ev.pos (by omega) (Ev.pos (by omega) ?_)
   rw[bt_mid e,w64 (i:=(p.length:Int)+1) (by omega) (by omega)]
   have hgo:=ih () trivial
   have hb:=b.toNat_lt
   have key:∀(g:Nat→Option Bool),(okB b=true→Ev g (t.all okB&&inR (bts s).length 1 20))→(okB b=false→Ev g false)→Ev g ((b::t).all okB&&inR (bts s).length 1 20):=by
    intro g h1 h2
    cases ho:okB b with
    | true=>simpa[ho] using h1 ho
    | false=>simpa[ho] using h2 ho
   refine key _ (fun ho=>?_) (fun ho=>?_)
   ·simp only[okB,Bool.or_eq_true,Bool.and_eq_true,decide_eq_true_eq] at ho
    by_cases c1:(b.toNat:Int)≥97
    ·refine Ev.pos c1 ?_
     by_cases c2:(b.toNat:Int)≤122
     ·exact Ev.pos c2 hgo
     ·refine Ev.neg c2 (Ev.pos (by omega) (Ev.neg (by omega) (Ev.neg (by omega) (Ev.neg (by omega) ?_))))
      omega
    ·refine Ev.neg c1 ?_
     by_cases c3:(b.toNat:Int)≥48
     ·refine Ev.pos c3 ?_
      by_cases c4:(b.toNat:Int)≤57
      ·exact Ev.pos c4 hgo
      ·refine Ev.neg c4 ?_
       by_cases c5:(b.toNat:Int)=45
       ·exact Ev.pos c5 hgo
       ·exact Ev.neg c5 (Ev.pos (by omega) hgo)
     ·refine Ev.neg c3 ?_
      by_cases c5:(b.toNat:Int)=45
      ·exact Ev.pos c5 hgo
      ·exact Ev.neg c5 (Ev.pos (by omega) hgo)
   ·simp only[okB,Bool.or_eq_false_iff,Bool.and_eq_false_iff,decide_eq_false_iff_not] at ho
    by_cases c1:(b.toNat:Int)≥97
    ·exact Ev.pos c1 (Ev.neg (by omega) (Ev.pos (by omega) (Ev.neg (by omega) (Ev.neg (by omega) (Ev.neg (by omega) (Ev.const rfl))))))
    ·refine Ev.neg c1 ?_
     by_cases c3:(b.toNat:Int)≥48
     ·exact Ev.pos c3 (Ev.neg (by omega) (Ev.neg (by omega) (Ev.neg (by omega) (Ev.const rfl))))
     ·exact Ev.neg c3 (Ev.neg (by omega) (Ev.neg (by omega) (Ev.const rfl)))
theorem splitC_sizes (c:UInt8):∀(l cur:List UInt8),∀x∈splitC c cur l,x.size≤cur.length+l.length
 | [],cur,x,h=>by
  simp only[splitC,List.mem_singleton] at h
  subst h
  rw[bq_,ci_]
  simp
 | b::l,cur,x,h=>by
  unfold splitC at h
  split at h
  ·rcases List.mem_cons.mp h with rfl|h2
   ·rw[bq_,ci_];simp
   ·have:=splitC_sizes c l [] x h2
    simp at this ⊢
    omega
  ·have:=splitC_sizes c l (cur++[b]) x h
   simp at this ⊢
   omega
theorem specLabels_eq (s:ByteArray) (hs:s.size≤1048576):Ev (fun k=>bo_.f k s) (if (labels s).all labelOk=true then(labels s,decide ((bts s).length≤60)&&decide ((labels s).length≤8)) else([],false)):=by
 have hz:=bq_ s
 unfold bo_.f
 rw[bs_]
 by_cases h:bts s=[]
 ·refine Ev.pos h (Ev.const ?_)
  have:labels s=[]:=by unfold labels;rw[if_pos h]
  simp[this,h]
 ·have hlab:labels s=splitC 46 [] (bts s):=by unfold labels;rw[if_neg h]
  rw[hlab]
  refine Ev.neg h (Ev.bind' _ (specSplit_eq s hs) ?_)
  have hlen:=splitC_len 46 (bts s) []
  have hsz:=splitC_sizes 46 (bts s) []
  generalize splitC 46 [] (bts s)=L at hlen hsz
  refine Ev.eq_ (a4_ L (fun k (_:Unit) i=>bo_.l0 k s L L (L.length:Int) i) (fun _ t=>if t.all labelOk=true then(L,decide ((bts s).length≤60)&&decide (L.length≤8)) else([],false)) (fun _ _=>True) ?_ ?_ () trivial) rfl
  ·intro _ _
   apply Ev.succ
   simp only[bo_.l0]
   refine Ev.neg (by omega) ?_
   by_cases h60:(s.size:Int)≤60
   ·refine Ev.pos h60 (Ev.const ?_)
    have:(bts s).length≤60:=by omega
    simp[this]
    omega
   ·refine Ev.neg h60 (Ev.const ?_)
    have:¬(bts s).length≤60:=by omega
    simp[this]
  ·intro p x t _ e _ ih
   have hm:=bc_ e
   have hx:x.size≤1048576:=by have:=hsz x (b5_ e);simp at this;omega
   apply Ev.succ
   simp only[bo_.l0,rdOf_mid e]
   refine Ev.pos hm.1 (Ev.pos (by omega) (Ev.pos hm.1 (Ev.bind' _ (specLabel_eq x hx) ?_)))
   cases hl:labelOk x with
   | false=>exact Ev.aG_ (Ev.const (by simp[hl]))
   | true =>
    refine Ev.aK_ ?_
    rw[w64 (i:=(p.length:Int)+1) (by omega) (by omega)]
    refine Ev.eq_ (ih () trivial) ?_
    simp[hl]
theorem specGoodName_eq (s:ByteArray) (hs:s.size≤1048576):Ev (fun k=>spec_GoodName.f k s) (nameOk s):=by
 unfold spec_GoodName.f nameOk
 refine Ev.bind' _ (specLabels_eq s hs) (Ev.const ?_)
 cases(labels s).all labelOk<;>simp
theorem labelsOf_eq (s:ByteArray) (hs:s.size≤1048576):Ev (fun k=>cs_.f k s) (labels s):=by
 unfold cs_.f labels
 rw[bs_]
 by_cases h:bts s=[]
 ·exact Ev.pos h (Ev.const (by rw[if_pos h]))
 ·rw[if_neg h]
  exact Ev.neg h (Ev.bind' _ (strSplit_eq s hs) (Ev.const rfl))
theorem labels_len (s:ByteArray):(labels s).length≤s.size+1:=by
 have hz:=bq_ s
 unfold labels
 split
 ·simp
 ·have:=splitC_len 46 (bts s) [];omega
theorem labels_sizes (s:ByteArray):∀x∈labels s,x.size≤s.size:=by
 have hz:=bq_ s
 unfold labels
 split
 ·simp
 ·intro x hx
  have:=splitC_sizes 46 (bts s) [] x hx
  simp at this
  omega
theorem implGoodName_eq (s:ByteArray) (hs:s.size≤1048576):Ev (fun k=>bP_.f k s) (nameOk s):=by
 have hz:=bq_ s
 have hll:=labels_len s
 have hls:=labels_sizes s
 unfold bP_.f nameOk
 by_cases h:(s.size:Int) > 60
 ·refine Ev.pos h (Ev.const ?_)
  have:¬(bts s).length≤60:=by omega
  simp[this]
 ·refine Ev.neg h (Ev.bind' _ (labelsOf_eq s hs) ?_)
  have h60:(bts s).length≤60:=by omega
  by_cases h8:((labels s).length:Int)≤8
  ·refine Ev.pos h8 (Ev.bind' _ (a7_.any (labels s) (fun x => !labelOk x) (by omega) ?_) (Ev.const ?_))
   ·intro x hx
    unfold impl_GoodName_1.f
    exact Ev.cbind _ (isLabel_eq x (by have:=hls x hx;omega)) (Ev.const rfl)
   ·have h8':(labels s).length≤8:=by omega
    rw[any_not]
    simp[h60,h8']
  ·refine Ev.neg h8 (Ev.const ?_)
   have h8':¬(labels s).length≤8:=by omega
   simp[h8']
theorem numberIn_eq (s:ByteArray) (hs:s.size≤1048576) (most:Int) (hm:most≤9999999999):∃v,cr_.f s most=some (v,numOk (bts s) most)∧(numOk (bts s) most=true→v=numOf (bts s)):=by
 unfold cr_.f
 rw[if_pos (by omega)]
 have h:=number_in (bts s) most hm
 have e:bts s=s.data.toList:=rfl
 rw[e] at h ⊢
 cases hA:Go.Lib.atoiAll s.data.toList with
 | ok v =>
  rw[hA] at h
  simp only at h ⊢
  exact⟨v,by rw[h.1],h.2⟩
 | range =>
  rw[hA] at h
  simp only at h ⊢
  exact⟨_,by rw[h],fun h2=>by rw[h] at h2;cases h2⟩
 | _ =>
  rw[hA] at h
  simp only at h ⊢
  exact⟨0,by rw[h],fun h2=>by rw[h] at h2;cases h2⟩
theorem l1Int_eq (s:ByteArray) (hs:s.size≤1048576):Ev (fun k=>bj_.f k s) (numOf (bts s)):=by
 have hz:=bq_ s
 unfold bj_.f
 refine Ev.cbind _ (l1In_eq _ _ _) ?_
 have hend:∀b,b=true→numOf (bts s) = -1→Ev (fun k=>bj_.j0 k s b) (numOf (bts s)):=by
  intro b hb hn
  subst hb
  apply Ev.succ
  simp only[bj_.j0]
  exact Ev.pos (by first|rfl|trivial) (Ev.const (by rw[hn]))
 cases hr:inR (s.size:Int) 1 10 with
 | false =>
  refine Ev.aG_ (hend true rfl ?_)
  unfold inR at hr
  simp only[Bool.and_eq_false_iff,decide_eq_false_iff_not] at hr
  unfold numOf
  rw[if_neg]
  rintro⟨h1,h2⟩
  have:bts s≠[]:=by
   intro e
   rw[e] at h1
   simp[isNumeral] at h1
  have h3:0<(bts s).length:=List.length_pos_iff.mpr this
  omega
 | true =>
  refine Ev.aK_ ?_
  unfold inR at hr
  simp only[Bool.and_eq_true,decide_eq_true_eq] at hr
  refine Ev.pos (by omega) ?_
  obtain⟨b,t,e⟩:∃b t,bts s=b::t:=by
   cases h:bts s with
   | nil =>
    have h0:(bts s).length=0:=by rw[h];rfl
    omega
   | cons b t=>exact⟨b,t,rfl⟩
  have hb0:bt s 0=(b.toNat:Int):=bt_mid (p:=[]) e
  have loop:(bts s).length≤10→Ev (fun k=>bj_.l0 k s 0 0) (if (bts s).all isDg=true then(valF 0 (bts s):Int) else -1):=by
   intro h10
   refine Ev.eq_ (a4_ (bts s) (fun k (st:Nat) i=>bj_.l0 k s (st:Int) i) (fun st u=>if u.all isDg=true then(valF st u:Int) else -1) (fun p st=>st<10 ^ p.length) ?_ ?_ 0 (by simp)) rfl
   ·intro st hst
    apply Ev.succ
    simp only[bj_.l0]
    exact Ev.neg (by omega) (Ev.const (by simp[valF_nil]))
   ·intro p c u st e2 hst ih
    have hm:=bc_ e2
    have hp:10 ^ p.length≤10 ^ 9:=Nat.pow_le_pow_right (by decide) (by omega)
    apply Ev.succ
    simp only[bj_.l0]
    refine Ev.pos (by omega) (Ev.pos (by omega) ?_)
    rw[bt_mid e2,w64 (i:=(p.length:Int)+1) (by omega) (by omega),w64 (i:=10 * (st:Int)) (by omega) (by omega)]
    by_cases h1:c.toNat<48
    ·refine Ev.pos (by omega) (Ev.const ?_)
     have:isDg c=false:=by unfold isDg;simp;omega
     simp[this]
    ·refine Ev.neg (by omega) ?_
     by_cases h2:c.toNat > 57
     ·refine Ev.pos (by omega) (Ev.const ?_)
      have:isDg c=false:=by unfold isDg;simp;omega
      simp[this]
     ·refine Ev.neg (by omega) ?_
      have hd:isDg c=true:=by unfold isDg;simp;omega
      have e3:wrap64 (10 * (st:Int)+((c.toNat:Int) - 48) % 256)=((10 * st+(c.toNat - 48):Nat):Int):=by
       rw[w64 (by omega) (by omega)]
       omega
      rw[e3]
      refine Ev.eq_ (ih (10 * st+(c.toNat - 48)) ?_) ?_
      ·simp only[List.length_append,List.length_cons,List.length_nil,Nat.pow_succ]
       omega
      ·simp[hd,cT_]
  have h10:(bts s).length≤10:=by omega
  rw[hb0]
  by_cases h48:(b.toNat:Int)=48
  ·refine Ev.pos h48 ?_
   have hb:b=48:=by
    apply UInt8.toNat_inj.mp
    have h2:(48:UInt8).toNat=48:=rfl
    omega
   by_cases ht:t=[]
   ·have h1:(s.size:Int)=1:=by rw[hz,e,ht];rfl
    have hd:decide ((s.size:Int) > 1)=false:=by simp;omega
    rw[hd]
    apply Ev.succ
    simp only[bj_.j0]
    refine Ev.aG_ (Ev.eq_ (loop h10) ?_)
    rw[e,ht,hb]
    decide
   ·have hl:2≤(bts s).length:=by
     rw[e]
     have:=List.length_pos_iff.mpr ht
     simp only[List.length_cons]
     omega
    have hd:decide ((s.size:Int) > 1)=true:=by simp;omega
    rw[hd]
    refine hend true rfl ?_
    unfold numOf
    rw[if_neg]
    rintro⟨h1,h2⟩
    rw[e] at h1 hl
    simp only[List.length_cons] at hl
    simp[isNumeral,hb] at h1
    have:=h1.2
    subst this
    simp at hl
  ·refine Ev.neg h48 ?_
   apply Ev.succ
   simp only[bj_.j0]
   refine Ev.aG_ (Ev.eq_ (loop h10) ?_)
   have hne:b≠48:=fun h=>h48 (by rw[h];rfl)
   unfold numOf isNumeral
   rw[e]
   have hl:(b::t).length≤10:=by rw[←e];exact h10
   cases ha:(b::t).all isDg<;>simp[ha,hne,hl]<;>simp_all
def byt1 (n:Int):ByteArray:=strOfNums [n % 256]
def byt2 (n:Int):ByteArray:=strOfNums [n / 256 % 256,n % 256]
def byt4 (n:Int):ByteArray:=strOfNums [n / 16777216 % 256,n / 65536 % 256,n / 256 % 256,n % 256]
theorem number1_eq (n:Int):Ev (fun k=>aO_.f k n 1) (byt1 n):=by
 unfold aO_.f
 refine Ev.pos (by omega) (Ev.pos (by decide) ?_)
 rw[w64 (by omega) (by omega)]
 show Ev (fun k=>aO_.l0 k n [0] 0) _
 apply Ev.succ
 simp only[aO_.l0]
 refine Ev.pos (by omega) (Ev.pos (by omega) (Ev.pos (by decide) ?_))
 rw[w64 (by omega) (by omega)]
 apply Ev.succ
 simp only[aO_.l0]
 exact Ev.neg (by omega) (Ev.const rfl)
theorem number2_eq (n:Int):Ev (fun k=>aO_.f k n 2) (byt2 n):=by
 unfold aO_.f
 refine Ev.pos (by omega) (Ev.pos (by decide) ?_)
 rw[w64 (by omega) (by omega)]
 show Ev (fun k=>aO_.l0 k n [0,0] 1) _
 apply Ev.succ
 simp only[aO_.l0]
 refine Ev.pos (by omega) (Ev.pos (by omega) (Ev.pos (by decide) ?_))
 rw[w64 (by omega) (by omega)]
 show Ev (fun k=>aO_.l0 k (n / 256) [0,n % 256] 0) _
 apply Ev.succ
 simp only[aO_.l0]
 refine Ev.pos (by omega) (Ev.pos (by omega) (Ev.pos (by simp) ?_))
 rw[w64 (by omega) (by omega)]
 apply Ev.succ
 simp only[aO_.l0]
 exact Ev.neg (by omega) (Ev.const rfl)
theorem number4_eq (n:Int):Ev (fun k=>aO_.f k n 4) (byt4 n):=by
 unfold aO_.f
 refine Ev.pos (by omega) (Ev.pos (by decide) ?_)
 rw[w64 (by omega) (by omega)]
 show Ev (fun k=>aO_.l0 k n [0,0,0,0] 3) _
 apply Ev.succ
 simp only[aO_.l0]
 refine Ev.pos (by omega) (Ev.pos (by omega) (Ev.pos (by decide) ?_))
 rw[w64 (by omega) (by omega)]
 show Ev (fun k=>aO_.l0 k (n / 256) [0,0,0,n % 256] 2) _
 apply Ev.succ
 simp only[aO_.l0]
 refine Ev.pos (by omega) (Ev.pos (by omega) (Ev.pos (by simp) ?_))
 rw[w64 (by omega) (by omega)]
 show Ev (fun k=>aO_.l0 k (n / 256 / 256) [0,0,n / 256 % 256,n % 256] 1) _
 apply Ev.succ
 simp only[aO_.l0]
 refine Ev.pos (by omega) (Ev.pos (by omega) (Ev.pos (by simp) ?_))
 rw[w64 (by omega) (by omega)]
 show Ev (fun k=>aO_.l0 k (n / 256 / 256 / 256) [0,n / 256 / 256 % 256,n / 256 % 256,n % 256] 0) _
 apply Ev.succ
 simp only[aO_.l0]
 refine Ev.pos (by omega) (Ev.pos (by omega) (Ev.pos (by simp) ?_))
 rw[w64 (by omega) (by omega)]
 apply Ev.succ
 simp only[aO_.l0]
 refine Ev.neg (by omega) (Ev.const ?_)
 show some (strOfNums [n / 256 / 256 / 256 % 256,n / 256 / 256 % 256,n / 256 % 256,n % 256])=some (byt4 n)
 unfold byt4
 rw[show n / 16777216=n / 256 / 256 / 256 by omega,show n / 65536=n / 256 / 256 by omega]
theorem shr_at (x:Int) (y:Int) (n:Nat) (hn:y=(n:Int)) (h:n≤64):shr .i64 x y=x / 2 ^ n:=by
 unfold shr
 subst hn
 rw[show min ((n:Int)).toNat IntKind.i64.bits=n from by simp only[Int.toNat_natCast];exact Nat.min_eq_left h]
theorem big1_eq (n:Int):Ev (fun k=>bm_.f k n 1) (byt1 n):=by
 unfold bm_.f
 rw[w64 (by omega) (by omega)]
 show Ev (fun k=>bm_.l0 k n [] 0) _
 apply Ev.succ
 simp only[bm_.l0]
 rw[w64 (by omega) (by omega),w64 (by omega) (by omega),shr_at n (8 * 0) 0 rfl (by omega)]
 refine Ev.pos (by omega) (Ev.pos (by omega) (Ev.pos (by decide) ?_))
 apply Ev.succ
 simp only[bm_.l0]
 refine Ev.neg (by omega) (Ev.const ?_)
 simp[byt1]
theorem big2_eq (n:Int):Ev (fun k=>bm_.f k n 2) (byt2 n):=by
 unfold bm_.f
 rw[w64 (by omega) (by omega)]
 show Ev (fun k=>bm_.l0 k n [] 1) _
 apply Ev.succ
 simp only[bm_.l0]
 rw[w64 (by omega) (by omega),w64 (by omega) (by omega),shr_at n (8 * 1) 8 rfl (by omega)]
 refine Ev.pos (by omega) (Ev.pos (by omega) (Ev.pos (by decide) ?_))
 show Ev (fun k=>bm_.l0 k n [n / 2 ^ 8 % 256] 0) _
 apply Ev.succ
 simp only[bm_.l0]
 rw[w64 (by omega) (by omega),w64 (by omega) (by omega),shr_at n (8 * 0) 0 rfl (by omega)]
 refine Ev.pos (by omega) (Ev.pos (by omega) (Ev.pos (by simp) ?_))
 apply Ev.succ
 simp only[bm_.l0]
 refine Ev.neg (by omega) (Ev.const ?_)
 simp[byt2]
theorem big4_eq (n:Int):Ev (fun k=>bm_.f k n 4) (byt4 n):=by
 unfold bm_.f
 rw[w64 (by omega) (by omega)]
 show Ev (fun k=>bm_.l0 k n [] 3) _
 apply Ev.succ
 simp only[bm_.l0]
 rw[w64 (by omega) (by omega),w64 (by omega) (by omega),shr_at n (8 * 3) 24 rfl (by omega)]
 refine Ev.pos (by omega) (Ev.pos (by omega) (Ev.pos (by decide) ?_))
 show Ev (fun k=>bm_.l0 k n [n / 2 ^ 24 % 256] 2) _
 apply Ev.succ
 simp only[bm_.l0]
 rw[w64 (by omega) (by omega),w64 (by omega) (by omega),shr_at n (8 * 2) 16 rfl (by omega)]
 refine Ev.pos (by omega) (Ev.pos (by omega) (Ev.pos (by simp) ?_))
 show Ev (fun k=>bm_.l0 k n [n / 2 ^ 24 % 256,n / 2 ^ 16 % 256] 1) _
 apply Ev.succ
 simp only[bm_.l0]
 rw[w64 (by omega) (by omega),w64 (by omega) (by omega),shr_at n (8 * 1) 8 rfl (by omega)]
 refine Ev.pos (by omega) (Ev.pos (by omega) (Ev.pos (by simp) ?_))
 show Ev (fun k=>bm_.l0 k n [n / 2 ^ 24 % 256,n / 2 ^ 16 % 256,n / 2 ^ 8 % 256] 0) _
 apply Ev.succ
 simp only[bm_.l0]
 rw[w64 (by omega) (by omega),w64 (by omega) (by omega),shr_at n (8 * 0) 0 rfl (by omega)]
 refine Ev.pos (by omega) (Ev.pos (by omega) (Ev.pos (by simp) ?_))
 apply Ev.succ
 simp only[bm_.l0]
 refine Ev.neg (by omega) (Ev.const ?_)
 simp[byt4]
theorem aA_.idx (l0:List Int) (q:Int→Bool) (hl:l0.length≤1048576) (h:∀x∈l0,Ev (fun k=>cS_.f x) (q x)):Ev (fun k=>aA_.f k l0 ) (idxP q l0):=by
 unfold aA_.f
 refine Ev.eq_ (a4_ l0 (fun k (_:Nat) i=>aA_.l0 k l0 (l0.length:Int) i) (fun n t=>if 0≤idxP q t then(n:Int)+idxP q t else -1) (fun p n=>n=p.length) ?_ ?_ 0 rfl) ?_
 ·intro n hn
  apply Ev.succ
  simp only[aA_.l0]
  exact Ev.neg (by omega) (Ev.const (by simp[idxP]))
 ·intro p x t n e hn ih
  have hm:=bc_ e
  have hx:=h x (b5_ e)
  apply Ev.succ
  simp only[aA_.l0,rd_mid' e]
  refine Ev.pos hm.1 (Ev.pos (by omega) (Ev.pos hm.1 (Ev.bind' _ hx ?_)))
  have hq:idxP q (x::t)=(if q x then 0 else if 0≤idxP q t then idxP q t+1 else -1):=rfl
  rw[hq]
  cases q x with
  | true=>exact Ev.aK_ (Ev.const (by simp[hn]))
  | false =>
   refine Ev.aG_ ?_
   rw[w64 (by omega) (by omega)]
   refine Ev.eq_ (ih (n+1) (by simp[hn])) ?_
   by_cases h2:0≤idxP q t
   ·simp[h2];omega
   ·simp[h2]
 ·by_cases h2:0≤idxP q l0
  ·simp[h2]
  ·rw[if_neg h2]
   exact(idxP_neg q l0 h2).symm
theorem aU_.any (l0:List Int) (q:Int→Bool) (hl:l0.length≤1048576) (h:∀x∈l0,Ev (fun k=>cS_.f x) (q x)):Ev (fun k=>aU_.f k l0 ) (l0.any q):=by
 unfold aU_.f
 refine Ev.bind' _ (aA_.idx l0  q hl h) (Ev.const ?_)
 rw[idxP_nonneg]
def targetOk (s:ByteArray):Bool := !decide (bts s=[])&&nameOk s&&(labels s).all (fun x => !decide (bts x=[42]))
theorem splitC_mem (c:UInt8):∀(l cur:List UInt8) (b:UInt8),b∈cur∨b∈l→b=c∨∃x∈splitC c cur l,b∈bts x
 | [],cur,b,h=>by
  rcases h with h|h
  ·exact Or.inr ⟨⟨cur.toArray⟩,by simp[splitC],by rw[ci_];exact h⟩
  ·cases h
 | a::l,cur,b,h=>by
  unfold splitC
  by_cases ha:a=c
  ·rw[if_pos ha]
   rcases h with h|h
   ·exact Or.inr ⟨_,List.mem_cons_self,by rw[ci_];exact h⟩
   ·rcases List.mem_cons.mp h with h|h
    ·exact Or.inl (h.trans ha)
    ·rcases splitC_mem c l [] b (Or.inr h) with h2|⟨x,hx,h2⟩
     ·exact Or.inl h2
     ·exact Or.inr ⟨x,List.mem_cons_of_mem _ hx,h2⟩
  ·rw[if_neg ha]
   refine splitC_mem c l (cur++[a]) b ?_
   rcases h with h|h
   ·exact Or.inl (by simp[h])
   ·rcases List.mem_cons.mp h with h|h
    ·exact Or.inl (by simp[h])
    ·exact Or.inr h
theorem splitC_sub (c:UInt8):∀(l cur:List UInt8) (x:ByteArray) (b:UInt8),x∈splitC c cur l→b∈bts x→b∈cur∨b∈l
 | [],cur,x,b,hx,hb=>by
  simp only[splitC,List.mem_singleton] at hx
  subst hx
  rw[ci_] at hb
  exact Or.inl hb
 | a::l,cur,x,b,hx,hb=>by
  unfold splitC at hx
  by_cases ha:a=c
  ·rw[if_pos ha] at hx
   rcases List.mem_cons.mp hx with rfl|h
   ·rw[ci_] at hb;exact Or.inl hb
   ·rcases splitC_sub c l [] x b h hb with h2|h2
    ·cases h2
    ·exact Or.inr (List.mem_cons_of_mem _ h2)
  ·rw[if_neg ha] at hx
   rcases splitC_sub c l (cur++[a]) x b hx hb with h2|h2
   ·rcases List.mem_append.mp h2 with h3|h3
    ·exact Or.inl h3
    ·simp only[List.mem_singleton] at h3
     exact Or.inr (by rw[h3];exact List.mem_cons_self)
   ·exact Or.inr (List.mem_cons_of_mem _ h2)
theorem labelOk_in {x:ByteArray} (h:labelOk x=true) {b:UInt8} (hb:b∈bts x):bts x=[42]∨okB b=true:=by
 unfold labelOk at h
 simp only[Bool.or_eq_true,decide_eq_true_eq,Bool.and_eq_true,List.all_eq_true] at h
 rcases h with h|h
 ·exact Or.inl h
 ·exact Or.inr (h.1 b hb)
theorem star_label {s:ByteArray} (h:nameOk s=true):(42:UInt8)∈bts s↔∃x∈labels s,bts x=[42]:=by
 have hl:(labels s).all labelOk=true:=by
  unfold nameOk at h
  simp only[Bool.and_eq_true] at h
  exact h.2
 rw[List.all_eq_true] at hl
 unfold labels at hl ⊢
 by_cases he:bts s=[]
 ·rw[if_pos he];simp[he]
 ·rw[if_neg he] at hl ⊢
  constructor
  ·intro hm
   rcases splitC_mem 46 (bts s) [] 42 (Or.inr hm) with h2|⟨x,hx,hb⟩
   ·cases h2
   ·refine⟨x,hx,?_⟩
    rcases labelOk_in (hl x hx) hb with h3|h3
    ·exact h3
    ·exact absurd h3 (by decide)
  ·rintro⟨x,hx,hb⟩
   rcases splitC_sub 46 (bts s) [] x 42 hx (by rw[hb];simp) with h2|h2
   ·cases h2
   ·exact h2
theorem index_ge (l:List UInt8) (c:UInt8):decide (Go.Lib.indexByte l c≥0)=decide (c∈l):=by
 by_cases h:0<Go.Lib.countByte l c
 ·obtain⟨pre,post,e,_,hi,_⟩:=index_some l c h
  rw[hi]
  have:c∈l:=by rw[e];simp
  simp[this]
 ·obtain⟨h1,h2⟩:=index_none l c (by omega)
  rw[h2]
  simp[h1]
theorem hasByte_eq (s:ByteArray) (c:UInt8):cR_.f s (⟨#[c]⟩:ByteArray)=some (decide (c∈bts s)):=by
 unfold cR_.f cJ_.f
 rw[if_pos (by rfl)]
 simp only[Option.bind_some]
 show some (decide (Go.Lib.indexByte (bts s) c≥0))=_
 rw[index_ge]
theorem bne_dec (a b:List UInt8):(a != b) = !decide (a=b):=by
 by_cases h:a=b
 ·simp[h]
 ·rw[bne_iff_ne.mpr h];simp[h]
theorem isTarget_eq (s:ByteArray) (hs:s.size≤1048576):Ev (fun k=>cV_.f k s) (targetOk s):=by
 unfold cV_.f targetOk
 rw[bs_]
 by_cases h:bts s=[]
 ·exact Ev.pos h (Ev.const (by simp[h]))
 ·refine Ev.neg h (Ev.bind' _ (implGoodName_eq s hs) ?_)
  cases hn:nameOk s with
  | false=>exact Ev.aG_ (Ev.const (by simp))
  | true =>
   refine Ev.aK_ (Ev.cbind _ (hasByte_eq s 42) (Ev.const ?_))
   have hst:=star_label hn
   rw[Option.some.injEq,Bool.eq_iff_iff]
   simp only[h,decide_false,Bool.not_false,Bool.true_and,Bool.and_true,Bool.not_eq_true',decide_eq_false_iff_not,List.all_eq_true,Bool.not_eq_true',hst]
   constructor
   ·intro h2 x hx h3
    exact h2 ⟨x,hx,h3⟩
   ·rintro h2 ⟨x,hx,h3⟩
    exact h2 x hx h3
theorem specTarget_eq (s:ByteArray) (hs:s.size≤1048576):Ev (fun k=>bE_.f k s) (targetOk s):=by
 unfold bE_.f
 refine Ev.bind' _ (specLabels_eq s hs) ?_
 have hll:=labels_len s
 have main:∀(L:List ByteArray),L.length≤1048577→∀ok:Bool,Ev (fun k=>bE_.l0 k s ok L (L.length:Int) 0) (ok&&L.all (fun x => !decide (bts x=[42])) && !decide (bts s=[])):=by
  intro L hL ok
  refine a4_ L (fun k (o:Bool) i=>bE_.l0 k s o L (L.length:Int) i) (fun o t=>o&&t.all (fun x => !decide (bts x=[42])) && !decide (bts s=[])) (fun _ _=>True) ?_ ?_ ok trivial
  ·intro o _
   apply Ev.succ
   simp only[bE_.l0]
   refine Ev.neg (by omega) ?_
   cases o with
   | false=>exact Ev.aG_ (Ev.const (by simp))
   | true=>exact Ev.aK_ (Ev.const (by rw[bs_];by_cases h:bts s=[]<;>simp[h]))
  ·intro p x t o e _ ih
   have hm:=bc_ e
   apply Ev.succ
   simp only[bE_.l0,rdOf_mid e]
   refine Ev.pos hm.1 (Ev.pos (by omega) (Ev.pos hm.1 ?_))
   rw[w64 (i:=(p.length:Int)+1) (by omega) (by omega),bs_]
   cases o with
   | false=>exact Ev.aG_ (Ev.eq_ (ih false trivial) (by simp))
   | true =>
    refine Ev.aK_ (Ev.eq_ (ih _ trivial) ?_)
    rw[bne_dec]
    simp
 unfold targetOk nameOk
 by_cases h:(labels s).all labelOk=true
 ·rw[if_pos h]
  refine Ev.eq_ (main (labels s) (by omega) _) ?_
  simp only[h]
  cases decide ((bts s).length≤60)<;>cases decide ((labels s).length≤8)<;>cases decide (bts s=[])<;>simp
 ·rw[if_neg h]
  refine Ev.eq_ (main [] (by simp) false) ?_
  simp[h]
def wireB (s:ByteArray):ByteArray:=(labels s).foldl (fun a x=>a++(strOfNums [(x.size:Int) % 256]++x)) (⟨#[]⟩:ByteArray)
theorem nameOk_labels' {s:ByteArray} (h:nameOk s=true):(labels s).all labelOk=true:=by
 unfold nameOk at h
 simp only[Bool.and_eq_true] at h
 exact h.2
theorem target_name {s:ByteArray} (h:targetOk s=true):nameOk s=true:=by
 unfold targetOk at h
 simp only[Bool.and_eq_true] at h
 exact h.1.2
theorem nameOk_small {s:ByteArray} (h:nameOk s=true):s.size≤60∧(labels s).length≤8∧∀x∈labels s,x.size≤60:=by
 unfold nameOk at h
 simp only[Bool.and_eq_true,decide_eq_true_eq] at h
 have hz:=bq_ s
 refine⟨by omega,h.1.2,fun x hx=>?_⟩
 have:=labels_sizes s x hx
 omega
theorem sz_app (a b:ByteArray):(a++b).size=a.size+b.size:=ByteArray.size_append
theorem wire_step (a x:ByteArray) (n:Nat) (ha:a.size≤61 * n) (hx:x.size≤60) (hn:n≤8):(strOfNums [(x.size:Int) % 256]).size+x.size≤9223372036854775807∧a.size+(strOfNums [(x.size:Int) % 256]++x).size≤9223372036854775807∧(a++(strOfNums [(x.size:Int) % 256]++x)).size≤61 * (n+1):=by
 have h1:(strOfNums [(x.size:Int) % 256]).size=1:=strOfNums_size _
 simp only[sz_app,h1]
 omega
theorem empty_le:(⟨#[]⟩:ByteArray).size≤61 * ([]:List ByteArray).length:=by decide
theorem labelBytes_eq (s:ByteArray) (h:nameOk s=true):Ev (fun k=>bM_.f k s) (wireB s)∧(wireB s).size≤488:=by
 obtain⟨h1,h2,h3⟩:=nameOk_small h
 have hw:∀(t p:List ByteArray) (a:ByteArray),labels s=p++t→a.size≤61 * p.length→(t.foldl (fun a x=>a++(strOfNums [(x.size:Int) % 256]++x)) a).size≤61 * 8:=by
  intro t
  induction t with
  | nil =>
   intro p a e ha
   simp only[List.foldl_nil]
   have:p.length≤8:=by rw[e] at h2;simpa using h2
   omega
  | cons x t ih =>
   intro p a e ha
   rw[List.foldl_cons]
   have hp:(labels s).length=p.length+(t.length+1):=by rw[e];simp
   have:=wire_step a x p.length ha (h3 x (by rw[e];simp)) (by omega)
   exact ih (p++[x]) (a++(strOfNums [(x.size:Int) % 256]++x)) (by rw[e];simp) (by rw[show(p++[x]).length=p.length+1 from by simp];exact this.2.2)
 have h8:=hw (labels s) [] (⟨#[]⟩:ByteArray) (List.nil_append _).symm empty_le
 refine⟨?_,by unfold wireB;exact h8⟩
 unfold bM_.f wireB
 refine Ev.bind' _ (labelsOf_eq s (by omega)) ?_
 refine Ev.eq_ (a4_ (labels s) (fun k (a:ByteArray) i=>bM_.l0 k a (labels s) ((labels s).length:Int) i) (fun a t=>t.foldl (fun a x=>a++(strOfNums [(x.size:Int) % 256]++x)) a) (fun p a=>a.size≤61 * p.length) ?_ ?_ (⟨#[]⟩:ByteArray) empty_le) rfl
 ·intro a _
  apply Ev.succ
  simp only[bM_.l0]
  exact Ev.neg (by omega) (Ev.const rfl)
 ·intro p x t a e ha ih
  have hm:=bc_ e
  obtain⟨g1,g2,g3⟩:=wire_step a x p.length ha (h3 x (b5_ e)) (by omega)
  apply Ev.succ
  simp only[bM_.l0,rdOf_mid e]
  refine Ev.pos hm.1 (Ev.pos (by omega) (Ev.pos hm.1 (Ev.cbind [(x.size:Int) % 256] rfl (Ev.pos g1 (Ev.pos g2 ?_)))))
  rw[w64 (i:=(p.length:Int)+1) (by omega) (by omega)]
  exact ih (a++(strOfNums [(x.size:Int) % 256]++x)) (by rw[show(p++[x]).length=p.length+1 from by simp];exact g3)
theorem l2Bytes_eq (s:ByteArray) (h:nameOk s=true):Ev (fun k=>b9_.f k s) (wireB s++(⟨#[0]⟩:ByteArray)):=by
 obtain⟨h1,h2,h3⟩:=nameOk_small h
 unfold b9_.f wireB
 have hl:(labels s).all labelOk=true:=(nameOk_labels' h)
 have hsl:=specLabels_eq s (by omega)
 rw[if_pos hl] at hsl
 refine Ev.bind' _ hsl ?_
 refine Ev.eq_ (a4_ (labels s) (fun k (a:ByteArray) i=>b9_.l0 k a (labels s) ((labels s).length:Int) i) (fun a t=>t.foldl (fun a x=>a++(strOfNums [(x.size:Int) % 256]++x)) a++(⟨#[0]⟩:ByteArray)) (fun p a=>a.size≤61 * p.length) ?_ ?_ (⟨#[]⟩:ByteArray) empty_le) rfl
 ·intro a ha
  apply Ev.succ
  simp only[b9_.l0]
  exact Ev.neg (by omega) (Ev.pos (by omega) (Ev.const rfl))
 ·intro p x t a e ha ih
  have hm:=bc_ e
  obtain⟨g1,g2,g3⟩:=wire_step a x p.length ha (h3 x (b5_ e)) (by omega)
  apply Ev.succ
  simp only[b9_.l0,rdOf_mid e]
  refine Ev.pos hm.1 (Ev.pos (by omega) (Ev.pos hm.1 (Ev.cbind [(x.size:Int) % 256] rfl (Ev.pos g1 (Ev.pos g2 ?_)))))
  rw[w64 (i:=(p.length:Int)+1) (by omega) (by omega)]
  exact ih (a++(strOfNums [(x.size:Int) % 256]++x)) (by rw[show(p++[x]).length=p.length+1 from by simp];exact g3)
def cutB (c:UInt8):List UInt8→Option (List UInt8 × List UInt8)
 | []=>none
 | b::t=>if b=c then some ([],t) else(cutB c t).map (fun p=>(b::p.1,p.2))
theorem cutB_none {c:UInt8}:∀{l:List UInt8},cutB c l=none→c∉l
 | [],_=>by simp
 | b::t,h=>by
  unfold cutB at h
  by_cases hb:b=c
  ·rw[if_pos hb] at h;cases h
  ·rw[if_neg hb] at h
   simp only[Option.map_eq_none_iff] at h
   have:=cutB_none h
   intro hm
   rcases List.mem_cons.mp hm with e|e
   ·exact hb e.symm
   ·exact this e
theorem cutB_some {c:UInt8}:∀{l p q:List UInt8},cutB c l=some (p,q)→l=p++c::q∧c∉p
 | [],p,q,h=>by cases h
 | b::t,p,q,h=>by
  unfold cutB at h
  by_cases hb:b=c
  ·rw[if_pos hb] at h
   simp only[Option.some.injEq,Prod.mk.injEq] at h
   obtain⟨rfl,rfl⟩:=h
   exact⟨by rw[hb];rfl,by simp⟩
  ·rw[if_neg hb] at h
   simp only[Option.map_eq_some_iff,Prod.mk.injEq,Prod.exists] at h
   obtain⟨p',q',h1,rfl,rfl⟩:=h
   obtain⟨h2,h3⟩:=cutB_some h1
   refine⟨by rw[h2];rfl,?_⟩
   intro hm
   rcases List.mem_cons.mp hm with e|e
   ·exact hb e.symm
   ·exact h3 e
theorem splitC_ne (c:UInt8):∀(l cur:List UInt8),splitC c cur l≠[]
 | [],cur=>by simp[splitC]
 | b::l,cur=>by
  unfold splitC
  split
  ·simp
  ·exact splitC_ne c l _
theorem splitC_two (c:UInt8):∀(l cur:List UInt8),c∈l→2≤(splitC c cur l).length
 | [],cur,h=>by cases h
 | b::l,cur,h=>by
  unfold splitC
  by_cases hb:b=c
  ·rw[if_pos hb]
   have:=List.length_pos_iff.mpr (splitC_ne c l [])
   simp only[List.length_cons]
   omega
  ·rw[if_neg hb]
   rcases List.mem_cons.mp h with e|e
   ·exact absurd e.symm hb
   ·exact splitC_two c l _ e
theorem specSplitC_eq (c:UInt8) (s:ByteArray) (hs:s.size≤1048576):Ev (fun k=>bv_.f k s (c.toNat:Int)) (splitC c [] (bts s)):=by
 unfold bv_.f
 have hz:=bq_ s
 refine Ev.eq_ (a4_ (bts s) (fun k (st:List ByteArray × Nat × List UInt8) i=>bv_.l0 k s (c.toNat:Int) st.1 st.2.1 i) (fun st t=>st.1++splitC c st.2.2 t) (fun p st=>st.2.1≤p.length∧st.2.2=p.drop st.2.1∧st.1.length≤p.length) ?_ ?_ ([],0,[]) ⟨Nat.zero_le _,rfl,Nat.zero_le _⟩) (by simp)
 ·rintro⟨acc,fr,cur⟩ ⟨h1,h2,h3⟩
  apply Ev.succ
  simp only[bv_.l0]
  simp only at h1 h2 h3
  refine Ev.neg (by omega) (Ev.pos (by omega) (Ev.pos (by omega) (Ev.pos (by omega) (Ev.const ?_))))
  simp only[splitC]
  rw[extract_bts,h2]
  congr 4
  rw[List.take_of_length_le]
  ·simp
  ·simp[hz]
 ·rintro p b t ⟨acc,fr,cur⟩ e ⟨h1,h2,h3⟩ ih
  have hm:=bc_ e
  simp only at h1 h2 h3
  apply Ev.succ
  simp only[bv_.l0]
  refine Ev.pos (by omega) (Ev.pos (by omega) ?_)
  rw[bt_mid e,w64 (i:=(p.length:Int)+1) (by omega) (by omega)]
  by_cases hb:b=c
  ·subst hb
   refine Ev.pos (by rfl) (Ev.pos (by omega) (Ev.pos (by omega) (Ev.pos (by omega) (Ev.pos (by omega) ?_))))
   have hx:s.extract ((fr:Nat):Int).toNat ((p.length:Nat):Int).toNat=⟨cur.toArray⟩:=by
    rw[extract_bts,h2]
    congr 2
    rw[e]
    simp only[Int.toNat_natCast]
    rw[List.drop_append_of_le_length h1,List.take_append_of_le_length (by simp),List.take_of_length_le (by simp)]
   rw[hx]
   have hc:((p.length:Int)+1)=(((p.length+1:Nat)):Int):=by omega
   refine Ev.eq_ (ih (acc++[⟨cur.toArray⟩],p.length+1,[]) ⟨by simp,by simp,by simp;omega⟩) ?_
   simp[splitC]
  ·have:¬((b.toNat:Int)=(c.toNat:Int)):=by
    intro h
    apply hb
    apply UInt8.toNat_inj.mp
    omega
   refine Ev.neg this ?_
   refine Ev.eq_ (ih (acc,fr,cur++[b]) ⟨by simp;omega,?_,by simp;omega⟩) ?_
   ·simp only
    rw[h2,List.drop_append_of_le_length h1]
   ·simp[splitC,hb]
def partsA (s:ByteArray):List ByteArray:=splitC 46 [] (bts s)
def aOk (s:ByteArray):Bool:=(partsA s).all (fun x=>numOk (bts x) 255)&&decide ((partsA s).length=4)
def aB (s:ByteArray):ByteArray:=(partsA s).foldl (fun a x=>a++byt1 (numOf (bts x))) (⟨#[]⟩:ByteArray)
def mxOk (s:ByteArray):Bool:=match cutB 32 (bts s) with
 | some (p,q)=>numOk p 65535&&targetOk ⟨q.toArray⟩
 | none=>false
def mxB (s:ByteArray):ByteArray:=match cutB 32 (bts s) with
 | some (p,q)=>byt2 (numOf p)++(wireB ⟨q.toArray⟩++(⟨#[0]⟩:ByteArray))
 | none=>(⟨#[]⟩:ByteArray)
def txtC (b:UInt8):Bool:=decide (32≤b.toNat)&&decide (b.toNat≤126)
def txtOk (s:ByteArray):Bool:=(bts s).all txtC&&decide ((bts s).length≤30)
def dataOk (kind:Int) (s:ByteArray):Bool :=
 if kind=1 then aOk s else if kind=2∨kind=5 then targetOk s else if kind=6 then numOk (bts s) 4294967295 else if kind=15 then mxOk s else if kind=16 then txtOk s else false
def dataB (kind:Int) (s:ByteArray):ByteArray :=
 if kind=1 then aB s else if kind=2∨kind=5 then wireB s++(⟨#[0]⟩:ByteArray) else if kind=6 then byt4 (numOf (bts s)) else if kind=15 then mxB s else if kind=16 then byt1 (s.size:Int)++s else(⟨#[]⟩:ByteArray)
theorem byt1_size (n:Int):(byt1 n).size=1:=strOfNums_size _
theorem byt2_size (n:Int):(byt2 n).size=2:=strOfNums_size _
theorem parts_len (s:ByteArray):(partsA s).length≤s.size+1:=by
 have hz:=bq_ s
 have:=splitC_len 46 (bts s) []
 unfold partsA
 omega
theorem parts_size {s x:ByteArray} (h:x∈partsA s):x.size≤s.size:=by
 have hz:=bq_ s
 have:=splitC_sizes 46 (bts s) [] x h
 simp at this
 omega
theorem in255 (l:List UInt8) (m:Int):inR (numOf l) 0 m=numOk l m:=by
 unfold inR numOk
 by_cases h1:0≤numOf l<;>by_cases h2:numOf l≤m<;>simp[h1,h2]
theorem specA_eq (s:ByteArray) (hs:s.size≤1048576):∃B,Ev (fun k=>al_.f k 1 s) (B,aOk s)∧(aOk s=true→B=aB s):=by
 have hl:=parts_len s
 have main:Ev (fun k=>al_.f k 1 s) (if (partsA s).all (fun x=>numOk (bts x) 255)=true then(aB s,(((partsA s).length:Int)==4)) else((⟨#[]⟩:ByteArray),false)):=by
  unfold al_.f
  refine Ev.pos rfl (Ev.bind' (partsA s) (specSplitC_eq 46 s hs) ?_)
  unfold aB
  refine Ev.eq_ (a4_ (partsA s) (fun k (a:ByteArray) i=>al_.l0 k a (partsA s) (partsA s) ((partsA s).length:Int) i) (fun a t=>if t.all (fun x=>numOk (bts x) 255)=true then(t.foldl (fun a x=>a++byt1 (numOf (bts x))) a,(((partsA s).length:Int)==4)) else((⟨#[]⟩:ByteArray),false)) (fun p a=>a.size≤p.length) ?_ ?_ (⟨#[]⟩:ByteArray) (Nat.le_refl 0)) rfl
  ·intro a ha
   apply Ev.succ
   simp only[al_.l0]
   exact Ev.neg (by omega) (Ev.const (by simp))
  ·intro p x t a e ha ih
   have hm:=bc_ e
   have hx:=parts_size (b5_ e)
   apply Ev.succ
   simp only[al_.l0,rdOf_mid e]
   refine Ev.pos hm.1 (Ev.pos (by omega) (Ev.pos hm.1 (Ev.bind' (numOf (bts x)) (l1Int_eq x (by omega)) (Ev.cbind _ (l1In_eq _ _ _) ?_))))
   rw[in255]
   cases hn:numOk (bts x) 255 with
   | false=>exact Ev.aG_ (Ev.const (by simp[hn]))
   | true =>
    have h1:=byt1_size (numOf (bts x))
    refine Ev.aK_ (Ev.bind' (byt1 (numOf (bts x))) (number1_eq _) (Ev.pos (by omega) ?_))
    rw[w64 (i:=(p.length:Int)+1) (by omega) (by omega)]
    refine Ev.eq_ (ih (a++byt1 (numOf (bts x))) (by rw[sz_app,h1];simp;omega)) ?_
    simp[hn]
 refine⟨if (partsA s).all (fun x=>numOk (bts x) 255)=true then aB s else(⟨#[]⟩:ByteArray),Ev.eq_ main ?_,?_⟩
 ·unfold aOk
  by_cases h:(partsA s).all (fun x=>numOk (bts x) 255)=true
  ·rw[if_pos h,if_pos h,h]
   by_cases h4:(partsA s).length=4
   ·simp[h4]
   ·have:¬(((partsA s).length:Int)=4):=by omega
    simp[h4,this]
  ·rw[if_neg h,if_neg h]
   simp[h]
 ·intro h
  unfold aOk at h
  simp only[Bool.and_eq_true] at h
  rw[if_pos h.1]
theorem implA_eq (s:ByteArray) (hs:s.size≤1048576):Ev (fun k=>aF_.f k 1 s) (if aOk s=true then(aB s,true) else((⟨#[]⟩:ByteArray),false)):=by
 have hl:=parts_len s
 unfold aF_.f
 have hsp:Ev (fun k=>strings_Split.f k s (⟨#[46]⟩:ByteArray)) (partsA s):=strSplit_eq s hs
 refine Ev.pos rfl (Ev.bind' (partsA s) hsp ?_)
 unfold aB
 have hne:partsA s≠[]:=splitC_ne 46 (bts s) []
 by_cases h4:(partsA s).length=4
 ·refine Ev.eq_ (a4_ (partsA s) (fun k (a:ByteArray) i=>aF_.l0 k a (partsA s) (partsA s) ((partsA s).length:Int) i) (fun a t=>if t.all (fun x=>numOk (bts x) 255)=true then(t.foldl (fun a x=>a++byt1 (numOf (bts x))) a,true) else((⟨#[]⟩:ByteArray),false)) (fun p a=>a.size≤p.length) ?_ ?_ (⟨#[]⟩:ByteArray) (Nat.le_refl 0)) ?_
  ·intro a ha
   apply Ev.succ
   simp only[aF_.l0]
   exact Ev.neg (by omega) (Ev.const (by simp))
  ·intro p x t a e ha ih
   have hm:=bc_ e
   have hx:=parts_size (b5_ e)
   obtain⟨v,hv,hv2⟩:=numberIn_eq x (by omega) 255 (by omega)
   apply Ev.succ
   simp only[aF_.l0,rdOf_mid e]
   refine Ev.pos hm.1 (Ev.pos (by omega) (Ev.pos hm.1 (Ev.cbind _ hv ?_)))
   cases hn:numOk (bts x) 255 with
   | false=>exact Ev.aG_ (Ev.const (by simp[hn]))
   | true =>
    have hvn:=hv2 hn
    subst hvn
    have h1:=byt1_size (numOf (bts x))
    refine Ev.aK_ (Ev.pos (by omega) (Ev.bind' (byt1 (numOf (bts x))) (big1_eq _) (Ev.pos (by omega) ?_)))
    rw[w64 (i:=(p.length:Int)+1) (by omega) (by omega)]
    refine Ev.eq_ (ih (a++byt1 (numOf (bts x))) (by rw[sz_app,h1];simp;omega)) ?_
    simp[hn]
  ·unfold aOk
   simp[h4]
 ·obtain⟨x,t,e⟩:∃x t,partsA s=x::t:=by
   cases h:partsA s with
   | nil=>exact absurd h hne
   | cons x t=>exact⟨x,t,rfl⟩
  have hx:=parts_size (s:=s) (x:=x) (by rw[e];simp)
  obtain⟨v,hv,hv2⟩:=numberIn_eq x (by omega) 255 (by omega)
  have hno:aOk s=false:=by unfold aOk;simp[h4]
  have hr:rdOf ByteArray.empty (partsA s) 0=x:=rdOf_mid (p:=[]) e
  have hp:0<(partsA s).length:=List.length_pos_iff.mpr hne
  apply Ev.succ
  simp only[aF_.l0,hr,hno]
  refine Ev.pos (by omega) (Ev.pos (by omega) (Ev.pos (by omega) (Ev.cbind _ hv ?_)))
  cases hn:numOk (bts x) 255 with
  | false=>exact Ev.aG_ (Ev.const rfl)
  | true=>exact Ev.aK_ (Ev.neg (by omega) (Ev.const rfl))
theorem strCut32 (s:ByteArray) (hs:s.size≤1048576):strings_Cut.f s (⟨#[32]⟩:ByteArray)=some (match cutB 32 (bts s) with
  | some (p,q)=>(⟨p.toArray⟩,⟨q.toArray⟩,true)
  | none=>(s,⟨#[]⟩,false)):=by
 have hz:=bq_ s
 unfold strings_Cut.f stringslite_Cut.f cA_.f
 rw[if_pos (by rfl),show Go.Lib.indexByte s.data.toList ((⟨#[32]⟩:ByteArray).data.toList.headD 0)=Go.Lib.indexByte (bts s) 32 from rfl]
 simp only[Option.bind_some]
 cases hc:cutB 32 (bts s) with
 | none =>
  have hn:=cutB_none hc
  have hcnt:¬0<Go.Lib.countByte (bts s) 32:=by
   intro h
   obtain⟨pre,post,e,_⟩:=index_some (bts s) 32 h
   exact hn (by rw[e];simp)
  obtain⟨_,hi⟩:=index_none (bts s) 32 (by omega)
  rw[hi,if_neg (by omega)]
  rfl
 | some pq =>
  obtain⟨p,q⟩:=pq
  obtain⟨e,hp⟩:=cutB_some hc
  have hcnt:0<Go.Lib.countByte (bts s) 32:=by
   rcases Nat.eq_zero_or_pos (Go.Lib.countByte (bts s) 32) with h|h
   ·exact absurd (by rw[e];simp:(32:UInt8)∈bts s) (index_none (bts s) 32 h).1
   ·exact h
  obtain⟨pre,post,e2,hp2,hi,_⟩:=index_some (bts s) 32 hcnt
  have hpre:pre=p∧post=q:=by
   have:=e2.symm.trans e
   have h1:=splitC_pre 32 post pre [] hp2
   have h2:=splitC_pre 32 q p [] hp
   clear hi e e2 hcnt hc hz
   induction pre generalizing p with
   | nil =>
    cases p with
    | nil=>simp at this;exact⟨rfl,this⟩
    | cons a p=>simp at this;exact absurd this.1 (fun h=>hp (by simp[h]))
   | cons a pre ih =>
    cases p with
    | nil=>simp at this;exact absurd this.1 (fun h=>hp2 (by simp[h]))
    | cons b p =>
     simp only[List.cons_append,List.cons.injEq] at this
     obtain⟨rfl,this⟩:=this
     have:=ih p (fun h=>hp (List.mem_cons_of_mem _ h)) (fun h=>hp2 (List.mem_cons_of_mem _ h)) this (splitC_pre 32 post pre [] (fun h=>hp2 (List.mem_cons_of_mem _ h))) (splitC_pre 32 q p [] (fun h=>hp (List.mem_cons_of_mem _ h)))
     exact⟨by rw[this.1],this.2⟩
  obtain⟨rfl,rfl⟩:=hpre
  have hlen:(bts s).length=pre.length+(post.length+1):=by rw[e];simp
  have h1:((⟨#[32]⟩:ByteArray).size:Int)=1:=rfl
  rw[hi,h1,w64 (i:=(pre.length:Int)+1) (by omega) (by omega),if_pos (by omega),if_pos (by omega),if_pos (by omega),if_pos (by omega),if_pos (by omega)]
  simp only[Option.bind_some]
  have x1:s.extract 0 ((pre.length:Int)).toNat=⟨pre.toArray⟩:=by
   rw[extract_bts]
   congr 2
   rw[e]
   simp
  have x2:s.extract (((pre.length:Int)+1)).toNat s.size=⟨post.toArray⟩:=by
   rw[extract_bts]
   congr 2
   have e':bts s=(pre++[32])++post:=by simpa using e
   have h1:(((pre.length:Int)+1)).toNat=(pre++[32]).length:=by simp<;>omega
   rw[e',h1,List.drop_left,List.take_of_length_le]
   simp at hlen ⊢
   omega
  rw[x1,x2]
def ltS (a b:ByteArray):Bool:=Op.bytesLess (bts a) (bts b)
def cmpR:List ByteArray→List ByteArray→Int
 | [],[]=>0
 | [],_::_ => -1
 | _::_,[]=>1
 | a::s,b::t=>if ltS a b=true then -1 else if bts a=bts b then cmpR s t else 1
def cmpN (a b:ByteArray):Int:=cmpR (labels a).reverse (labels b).reverse
theorem rev_at {α:Type} {l p t:List α} {x d:α} (e:l.reverse=p++x::t):rdOf d l ((l.length:Int) - ((p.length:Int)+1))=x:=by
 have hl:l=t.reverse++x::p.reverse:=by
  have:=congrArg List.reverse e
  rw[List.reverse_reverse] at this
  rw[this]
  simp
 have hn:((l.length:Int) - ((p.length:Int)+1))=((t.reverse.length:Nat):Int):=by
  rw[hl]
  simp<;>omega
 rw[hn]
 exact rdOf_mid hl
theorem specCompare_loop (x y:List ByteArray) (hx:x.length≤1048577) (hy:y.length≤1048577):∀(s t p q:List ByteArray),x.reverse=p++s→y.reverse=q++t→p.length=q.length→Ev (fun k=>a1_.l0 k x y ((p.length:Int)+1)) (cmpR s t)
 | [],t,p,q,e1,e2,hp=>by
  have l1:x.length=p.length:=by have:=congrArg List.length e1;simpa using this
  have l2:y.length=q.length+t.length:=by have:=congrArg List.length e2;simpa using this
  apply Ev.succ
  simp only[a1_.l0]
  refine Ev.neg (by omega) (Ev.succ ?_)
  simp only[a1_.j1]
  cases t with
  | nil =>
   simp only[List.length_nil] at l2
   first
    | exact Ev.neg (by simp) (Ev.neg (by omega) (Ev.neg (by omega) (Ev.const rfl)))
    | exact Ev.neg (by omega) (Ev.neg (by omega) (Ev.const rfl))
  | cons b t =>
   simp only[List.length_cons] at l2
   first
    | exact Ev.neg (by simp) (Ev.pos (by omega) (Ev.const rfl))
    | exact Ev.pos (by omega) (Ev.const rfl)
 | a::s,[],p,q,e1,e2,hp=>by
  have l1:x.length=p.length+(s.length+1):=by have:=congrArg List.length e1;simpa using this
  have l2:y.length=q.length:=by have:=congrArg List.length e2;simpa using this
  apply Ev.succ
  simp only[a1_.l0]
  refine Ev.pos (by omega) (Ev.succ ?_)
  simp only[a1_.j1]
  refine Ev.neg (by simp;omega) (Ev.neg (by omega) (Ev.pos (by omega) (Ev.const rfl)))
 | a::s,b::t,p,q,e1,e2,hp=>by
  have l1:x.length=p.length+(s.length+1):=by have:=congrArg List.length e1;simpa using this
  have l2:y.length=q.length+(t.length+1):=by have:=congrArg List.length e2;simpa using this
  have ra:rdOf ByteArray.empty x ((x.length:Int) - ((p.length:Int)+1))=a:=rev_at e1
  have rb:rdOf ByteArray.empty y ((y.length:Int) - ((p.length:Int)+1))=b:=by rw[hp];exact rev_at e2
  have ih:=specCompare_loop x y hx hy s t (p++[a]) (q++[b]) (by rw[e1];simp) (by rw[e2];simp) (by simp[hp])
  have ec:(((p++[a]).length:Nat):Int)+1=(p.length:Int)+1+1:=by simp
  rw[ec] at ih
  apply Ev.succ
  simp only[a1_.l0]
  refine Ev.pos (by omega) (Ev.succ ?_)
  simp only[a1_.j1]
  rw[w64 (i:=(x.length:Int) - ((p.length:Int)+1)) (by omega) (by omega),w64 (i:=(y.length:Int) - ((p.length:Int)+1)) (by omega) (by omega),w64 (i:=(p.length:Int)+1+1) (by omega) (by omega),ra,rb,bs_,bs_]
  refine Ev.pos (by simp;omega) (Ev.pos (by omega) (Ev.pos (by omega) (Ev.pos (by omega) (Ev.pos (by omega) ?_))))
  have hc:cmpR (a::s) (b::t)=if ltS a b=true then -1 else if bts a=bts b then cmpR s t else 1:=rfl
  rw[hc]
  by_cases h1:ltS a b=true
  ·rw[if_pos h1]
   exact Ev.pos h1 (Ev.const rfl)
  ·rw[if_neg h1]
   refine Ev.neg h1 ?_
   by_cases h2:bts a=bts b
   ·rw[if_pos h2]
    exact Ev.pos h2 ih
   ·rw[if_neg h2]
    exact Ev.neg h2 (Ev.const rfl)
theorem specCompare_eq (a b:ByteArray) (ha:a.size≤1048576) (hb:b.size≤1048576) (ga:(labels a).all labelOk=true) (gb:(labels b).all labelOk=true):Ev (fun k=>a1_.f k a b) (cmpN a b):=by
 have la:=labels_len a
 have lb:=labels_len b
 unfold a1_.f
 have h1:=specLabels_eq a ha
 have h2:=specLabels_eq b hb
 rw[if_pos ga] at h1
 rw[if_pos gb] at h2
 refine Ev.bind' _ h1 (Ev.bind' _ h2 ?_)
 have:=specCompare_loop (labels a) (labels b) (by omega) (by omega) (labels a).reverse (labels b).reverse [] [] rfl rfl rfl
 unfold cmpN
 simpa using this
theorem reverse_loop:∀(n:Nat) (M A B:List ByteArray),M.length≤n→A.length=B.length→(A++M++B).length≤1048577→Ev (fun k=>aq_.l0 k (A++M++B) (A.length:Int) ((A.length:Int)+M.length - 1)) (A++M.reverse++B)
 | n,[],A,B,hn,hAB,hl=>by
  apply Ev.succ
  simp only[aq_.l0]
  exact Ev.neg (by simp<;>omega) (Ev.const (by simp))
 | n,[m],A,B,hn,hAB,hl=>by
  apply Ev.succ
  simp only[aq_.l0]
  exact Ev.neg (by simp<;>omega) (Ev.const (by simp))
 | 0,m1::m2::M,A,B,hn,hAB,hl=>by simp at hn
 | n+1,m1::m2::M,A,B,hn,hAB,hl=>by
  obtain⟨M',z,hM⟩:∃M' z,m2::M=M'++[z]:=⟨(m2::M).dropLast,(m2::M).getLast (by simp),(List.dropLast_concat_getLast _).symm⟩
  rw[hM] at hn hl ⊢
  have hlen:(A++(m1::(M'++[z]))++B).length=A.length+(M'.length+2)+B.length:=by simp;omega
  rw[hlen] at hl
  simp only[List.length_cons,List.length_append,List.length_nil] at hn
  have e1:A++(m1::(M'++[z]))++B=A++m1::(M'++z::B):=by simp
  have e2:A++(m1::(M'++[z]))++B=(A++m1::M')++z::B:=by simp
  have hj:(A.length:Int)+(((m1::(M'++[z])).length:Nat):Int) - 1=(((A++m1::M').length:Nat):Int):=by simp;omega
  have hj2:(((A++m1::M').length:Nat):Int)=(A.length:Int)+M'.length+1:=by simp;omega
  rw[hj]
  have ih:=reverse_loop n M' (A++[z]) (m1::B) (by omega) (by simp;omega) (by simp;omega)
  apply Ev.succ
  simp only[aq_.l0]
  have r1:rdOf ByteArray.empty (A++(m1::(M'++[z]))++B) (A.length:Int)=m1:=rdOf_mid e1
  have r2:rdOf ByteArray.empty (A++(m1::(M'++[z]))++B) (((A++m1::M').length:Nat):Int)=z:=rdOf_mid e2
  rw[r1,r2,w64 (i:=(A.length:Int)+1) (by omega) (by omega),w64 (i:=(((A++m1::M').length:Nat):Int) - 1) (by omega) (by omega)]
  refine Ev.pos (by omega) (Ev.pos (by omega) (Ev.pos (by rw[hlen];omega) (Ev.pos (by omega) (Ev.pos (by rw[hlen];omega) ?_))))
  have s1:(A++(m1::(M'++[z]))++B).set ((A.length:Int)).toNat z=(A++z::M')++z::B:=by
   rw[e1,set_mid]
   simp
  have s2:((A++z::M')++z::B).set ((((A++m1::M').length:Nat):Int)).toNat m1=(A++[z])++M'++(m1::B):=by
   have:(((A++m1::M').length:Nat):Int)=(((A++z::M').length:Nat):Int):=by simp
   rw[this,set_mid]
   simp
  rw[s1,s2]
  have c1:(((A++[z]).length:Nat):Int)=(A.length:Int)+1:=by simp
  have c2:(A.length:Int)+1+(M'.length:Int) - 1=(((A++m1::M').length:Nat):Int) - 1:=by rw[hj2];omega
  rw[c1,c2] at ih
  refine Ev.eq_ ih ?_
  simp
theorem reverse_eq (l:List ByteArray) (hl:l.length≤1048577):Ev (fun k=>aq_.f k l) l.reverse:=by
 unfold aq_.f
 rw[w64 (by omega) (by omega)]
 have:=reverse_loop l.length l [] [] (Nat.le_refl _) rfl (by simpa using hl)
 simpa using this
theorem cmpStr_eq (a b:ByteArray):cI_.f a b=some (if ltS a b=true then -1 else if bts a=bts b then 0 else 1):=by
 unfold cI_.f bJ_.f ltS
 simp only[Option.bind_some,bne_self_eq_false,Bool.false_eq_true,if_false,bs_]
 split
 ·rfl
 ·split<;>rfl
theorem sliceCompare_eq (x y:List ByteArray) (hx:x.length≤1048577) (hy:y.length≤1048577):Ev (fun k=>aX_.f k x y) (cmpR x y):=by
 unfold aX_.f
 have main:∀(s t p q:List ByteArray),x=p++s→y=q++t→p.length=q.length→Ev (fun k=>aX_.l0 k x y x (x.length:Int) (p.length:Int)) (cmpR s t):=by
  intro s
  induction s with
  | nil =>
   intro t p q e1 e2 hp
   have l1:x.length=p.length:=by rw[e1];simp
   have l2:y.length=q.length+t.length:=by rw[e2];simp
   apply Ev.succ
   simp only[aX_.l0]
   refine Ev.neg (by omega) ?_
   cases t with
   | nil=>simp only[List.length_nil] at l2;exact Ev.neg (by omega) (Ev.const rfl)
   | cons b t=>simp only[List.length_cons] at l2;exact Ev.pos (by omega) (Ev.const rfl)
  | cons a s ih =>
   intro t p q e1 e2 hp
   have m1:=bc_ e1
   apply Ev.succ
   simp only[aX_.l0,rdOf_mid e1]
   refine Ev.pos m1.1 (Ev.pos (by omega) (Ev.pos m1.1 ?_))
   cases t with
   | nil =>
    have l2:y.length=q.length:=by rw[e2];simp
    exact Ev.pos (by omega) (Ev.const rfl)
   | cons b t =>
    have m2:=bc_ e2
    have rb:rdOf ByteArray.empty y (p.length:Int)=b:=by rw[hp];exact rdOf_mid e2
    have hg:=ih t (p++[a]) (q++[b]) (by rw[e1];simp) (by rw[e2];simp) (by simp[hp])
    have ec:(((p++[a]).length:Nat):Int)=(p.length:Int)+1:=by simp
    rw[ec] at hg
    rw[rb,w64 (i:=(p.length:Int)+1) (by omega) (by omega)]
    refine Ev.neg (by omega) (Ev.pos (by omega) (Ev.cbind _ (cmpStr_eq a b) ?_))
    have hc:cmpR (a::s) (b::t)=if ltS a b=true then -1 else if bts a=bts b then cmpR s t else 1:=rfl
    rw[hc]
    by_cases h1:ltS a b=true
    ·rw[if_pos h1,if_pos h1]
     exact Ev.neg (by omega) (Ev.const rfl)
    ·rw[if_neg h1,if_neg h1]
     by_cases h2:bts a=bts b
     ·rw[if_pos h2,if_pos h2]
      exact Ev.pos rfl hg
     ·rw[if_neg h2,if_neg h2]
      exact Ev.neg (by omega) (Ev.const rfl)
 simpa using main x y [] [] rfl rfl rfl
theorem compareNames_eq (a b:ByteArray) (ha:a.size≤1048576) (hb:b.size≤1048576):Ev (fun k=>impl_compareNames.f k a b) (cmpN a b):=by
 have la:=labels_len a
 have lb:=labels_len b
 unfold impl_compareNames.f
 refine Ev.bind' _ (labelsOf_eq a ha) (Ev.bind' _ (labelsOf_eq b hb) (Ev.bind' _ (reverse_eq _ (by omega)) (Ev.bind' _ (reverse_eq _ (by omega)) (Ev.bind' _ (sliceCompare_eq _ _ (by simp;omega) (by simp;omega)) (Ev.const rfl)))))
theorem nameOk_byte {s:ByteArray} (h:nameOk s=true) {b:UInt8} (hb:b∈bts s):b=46∨b=42∨okB b=true:=by
 have hl:=nameOk_labels' h
 rw[List.all_eq_true] at hl
 unfold labels at hl
 by_cases he:bts s=[]
 ·rw[he] at hb;cases hb
 ·rw[if_neg he] at hl
  rcases splitC_mem 46 (bts s) [] b (Or.inr hb) with h2|⟨x,hx,h2⟩
  ·exact Or.inl h2
  ·rcases labelOk_in (hl x hx) h2 with h3|h3
   ·rw[h3] at h2
    simp only[List.mem_singleton] at h2
    exact Or.inr (Or.inl h2)
   ·exact Or.inr (Or.inr h3)
theorem target_no32 {s:ByteArray} (h:(32:UInt8)∈bts s):targetOk s=false:=by
 cases ht:targetOk s with
 | false=>rfl
 | true =>
  rcases nameOk_byte (target_name ht) h with h2|h2|h2
  ·cases h2
  ·cases h2
  ·exact absurd h2 (by decide)
theorem target_empty:targetOk (⟨#[]⟩:ByteArray)=false:=by
 unfold targetOk
 have:bts (⟨#[]⟩:ByteArray)=[]:=rfl
 simp[this]
theorem wireB_small {s:ByteArray} (h:targetOk s=true):(wireB s).size≤488:=(labelBytes_eq s (target_name h)).2
def tgt (kind:Int):Bool:=decide (kind=2∨kind=5)
theorem specJ1_eq (kind:Int) (s:ByteArray) (hs:s.size≤1048576) (h1:kind≠1):∃B,Ev (fun k=>al_.j1 k s kind (tgt kind)) (B,dataOk kind s)∧(dataOk kind s=true→B=dataB kind s):=by
 have hz:=bq_ s
 unfold dataOk dataB
 rw[if_neg h1,if_neg h1]
 by_cases ht:kind=2∨kind=5
 ·rw[if_pos ht,if_pos ht,show tgt kind=true from decide_eq_true ht]
  cases hk:targetOk s with
  | false =>
   refine⟨(⟨#[]⟩:ByteArray),Ev.succ ?_,fun h=>by cases h⟩
   ·simp only[al_.j1]
    refine Ev.pos (by first|rfl|trivial) (Ev.bind' _ (specTarget_eq s hs) ?_)
    rw[hk]
    exact Ev.aG_ (Ev.const rfl)
  | true =>
   refine⟨_,Ev.succ ?_,fun _=>rfl⟩
   simp only[al_.j1]
   refine Ev.pos (by first|rfl|trivial) (Ev.bind' _ (specTarget_eq s hs) ?_)
   rw[hk]
   exact Ev.aK_ (Ev.bind' _ (l2Bytes_eq s (target_name hk)) (Ev.const rfl))
 ·rw[if_neg ht,if_neg ht,show tgt kind=false from decide_eq_false ht]
  by_cases h6:kind=6
  ·rw[if_pos h6,if_pos h6]
   refine⟨byt4 (numOf (bts s)),Ev.succ ?_,fun _=>rfl⟩
   simp only[al_.j1]
   refine Ev.neg (by simp) (Ev.pos h6 (Ev.bind' _ (l1Int_eq s hs) (Ev.bind' _ (number4_eq _) (Ev.cbind _ (l1In_eq _ _ _) (Ev.const ?_)))))
   rw[in255]
  ·rw[if_neg h6,if_neg h6]
   by_cases h15:kind=15
   ·rw[if_pos h15,if_pos h15]
    have step:∀r,Ev (fun k=>if ((splitC 32 [] (bts s)).length:Int)=2 then(if 0<((splitC 32 [] (bts s)).length:Int) then((bj_.f k (rdOf ByteArray.empty (splitC 32 [] (bts s)) 0)).bind fun t175=>((bY_.f t175 0 65535).bind fun t176=>(if t176=true then(if 1<((splitC 32 [] (bts s)).length:Int) then((bE_.f k (rdOf ByteArray.empty (splitC 32 [] (bts s)) 1)).bind fun t178=>(al_.j2 k (splitC 32 [] (bts s)) (!t178))) else(none)) else(al_.j2 k (splitC 32 [] (bts s)) true)))) else(none)) else(al_.j2 k (splitC 32 [] (bts s)) true)) r→Ev (fun k=>al_.j1 k s kind false) r:=by
     intro r h
     apply Ev.succ
     simp only[al_.j1]
     exact Ev.neg (by simp) (Ev.neg h6 (Ev.pos h15 (Ev.bind' _ (specSplitC_eq 32 s hs) h)))
    have hbad:∀L,Ev (fun k=>al_.j2 k L true) ((⟨#[]⟩:ByteArray),false):=by
     intro L
     apply Ev.succ
     simp only[al_.j2]
     exact Ev.pos (by first|rfl|trivial) (Ev.const rfl)
    unfold mxOk mxB
    cases hc:cutB 32 (bts s) with
    | none =>
     refine⟨(⟨#[]⟩:ByteArray),step _ ?_,fun h=>by cases h⟩
     ·rw[splitC_none 32 (bts s) [] (cutB_none hc)]
      exact Ev.neg (by simp) (hbad _)
    | some pq =>
     obtain⟨p,q⟩:=pq
     obtain⟨e,hp⟩:=cutB_some hc
     have hlen:(bts s).length=p.length+(q.length+1):=by rw[e];simp
     have hsp:splitC 32 [] (bts s)=⟨p.toArray⟩::splitC 32 [] q:=by
      rw[e,splitC_pre 32 q p [] hp]
      rfl
     simp only
     by_cases hq:(32:UInt8)∈q
     ·have htq:targetOk ⟨q.toArray⟩=false:=target_no32 (by rw[ci_];exact hq)
      rw[htq,Bool.and_false]
      refine⟨(⟨#[]⟩:ByteArray),step _ ?_,fun h=>by cases h⟩
      ·have h2:=splitC_two 32 q [] hq
       rw[hsp]
       exact Ev.neg (by simp only[List.length_cons];omega) (hbad _)
     ·rw[splitC_none 32 q [] hq] at hsp
      have hps:(⟨p.toArray⟩:ByteArray).size≤1048576:=by rw[bq_,ci_];omega
      have hqs:(⟨q.toArray⟩:ByteArray).size≤1048576:=by rw[bq_,ci_];omega
      have hsp2:splitC 32 [] (bts s)=[⟨p.toArray⟩,⟨q.toArray⟩]:=hsp
      have r0:rdOf ByteArray.empty ([⟨p.toArray⟩,⟨q.toArray⟩]:List ByteArray) 0=⟨p.toArray⟩:=rfl
      have r1:rdOf ByteArray.empty ([⟨p.toArray⟩,⟨q.toArray⟩]:List ByteArray) 1=⟨q.toArray⟩:=rfl
      have hn:=l1Int_eq ⟨p.toArray⟩ hps
      rw[ci_] at hn
      cases hk:numOk p 65535&&targetOk ⟨q.toArray⟩ with
      | false =>
       refine⟨(⟨#[]⟩:ByteArray),step _ ?_,fun h=>by cases h⟩
       ·rw[hsp2,r0,r1]
        refine Ev.pos (by simp) (Ev.pos (by simp) (Ev.bind' _ hn (Ev.cbind _ (l1In_eq _ _ _) ?_)))
        rw[in255]
        cases hp2:numOk p 65535 with
        | false=>exact Ev.aG_ (hbad _)
        | true =>
         rw[hp2,Bool.true_and] at hk
         refine Ev.aK_ (Ev.pos (by simp) (Ev.bind' _ (specTarget_eq _ hqs) ?_))
         rw[hk]
         exact hbad _
      | true =>
       simp only[Bool.and_eq_true] at hk
       refine⟨byt2 (numOf p)++(wireB ⟨q.toArray⟩++(⟨#[0]⟩:ByteArray)),step _ ?_,fun _=>rfl⟩
       rw[hsp2,r0,r1]
       refine Ev.pos (by simp) (Ev.pos (by simp) (Ev.bind' _ hn (Ev.cbind _ (l1In_eq _ _ _) ?_)))
       rw[in255,hk.1]
       refine Ev.aK_ (Ev.pos (by simp) (Ev.bind' _ (specTarget_eq _ hqs) ?_))
       rw[hk.2]
       apply Ev.succ
       simp only[al_.j2,r0,r1]
       have hw:=wireB_small hk.2
       have h0:(⟨#[0]⟩:ByteArray).size=1:=rfl
       have hb2:=byt2_size (numOf p)
       refine Ev.neg (by simp) (Ev.pos (by simp) (Ev.bind' _ hn (Ev.bind' _ (number2_eq _) (Ev.pos (by simp) (Ev.bind' _ (l2Bytes_eq _ (target_name hk.2)) (Ev.pos ?_ (Ev.const rfl)))))))
       rw[sz_app,h0,hb2]
       omega
   ·rw[if_neg h15,if_neg h15]
    by_cases h16:kind=16
    ·rw[if_pos h16,if_pos h16]
     have main:Ev (fun k=>al_.l1 k s 0) (if (bts s).all txtC=true then(byt1 (s.size:Int)++s,decide ((s.size:Int)≤30)) else((⟨#[]⟩:ByteArray),false)):=by
      refine Ev.eq_ (a4_ (bts s) (fun k (_:Unit) i=>al_.l1 k s i) (fun _ t=>if t.all txtC=true then(byt1 (s.size:Int)++s,decide ((s.size:Int)≤30)) else((⟨#[]⟩:ByteArray),false)) (fun _ _=>True) ?_ ?_ () trivial) rfl
      ·intro _ _
       apply Ev.succ
       simp only[al_.l1]
       have hb1:(strOfNums [(s.size:Int) % 256]).size=1:=strOfNums_size _
       exact Ev.neg (by omega) (Ev.cbind _ rfl (Ev.pos (by omega) (Ev.const (by simp[byt1]))))
      ·intro p b t _ e _ ih
       have hm:=bc_ e
       apply Ev.succ
       simp only[al_.l1]
       refine Ev.pos (by omega) (Ev.pos (by omega) ?_)
       rw[bt_mid e,w64 (i:=(p.length:Int)+1) (by omega) (by omega)]
       by_cases c1:(b.toNat:Int)<32
       ·refine Ev.pos c1 (Ev.const ?_)
        have:txtC b=false:=by unfold txtC;simp;omega
        simp[this]
       ·refine Ev.neg c1 ?_
        by_cases c2:(b.toNat:Int) > 126
        ·refine Ev.pos c2 (Ev.const ?_)
         have:txtC b=false:=by unfold txtC;simp;omega
         simp[this]
        ·refine Ev.neg c2 (Ev.eq_ (ih () trivial) ?_)
         have:txtC b=true:=by unfold txtC;simp;omega
         simp[this]
     have jj:∀r,Ev (fun k=>al_.l1 k s 0) r→Ev (fun k=>al_.j1 k s kind false) r:=by
      intro r h
      apply Ev.succ
      simp only[al_.j1]
      exact Ev.neg (by simp) (Ev.neg h6 (Ev.neg h15 (Ev.pos h16 h)))
     refine⟨if (bts s).all txtC=true then byt1 (s.size:Int)++s else(⟨#[]⟩:ByteArray),jj _ (Ev.eq_ main ?_),?_⟩
     ·unfold txtOk
      by_cases ha:(bts s).all txtC=true
      ·rw[if_pos ha,if_pos ha,ha]
       have:decide ((s.size:Int)≤30)=decide ((bts s).length≤30):=decide_eq_decide.mpr (by omega)
       rw[this,Bool.true_and]
      ·rw[if_neg ha,if_neg ha]
       simp[ha]
     ·intro h
      unfold txtOk at h
      simp only[Bool.and_eq_true] at h
      rw[if_pos h.1]
    ·rw[if_neg h16]
     refine⟨(⟨#[]⟩:ByteArray),Ev.succ ?_,fun h=>by cases h⟩
     ·simp only[al_.j1]
      exact Ev.neg (by simp) (Ev.neg h6 (Ev.neg h15 (Ev.neg h16 (Ev.const rfl))))
theorem specData_eq (kind:Int) (s:ByteArray) (hs:s.size≤1048576):∃B,Ev (fun k=>al_.f k kind s) (B,dataOk kind s)∧(dataOk kind s=true→B=dataB kind s):=by
 by_cases h1:kind=1
 ·subst h1
  obtain⟨B,h2,h3⟩:=specA_eq s hs
  have e1:dataOk 1 s=aOk s:=by unfold dataOk;rw[if_pos rfl]
  have e2:dataB 1 s=aB s:=by unfold dataB;rw[if_pos rfl]
  rw[e1,e2]
  exact⟨B,h2,h3⟩
 ·obtain⟨B,h2,h3⟩:=specJ1_eq kind s hs h1
  refine⟨B,?_,h3⟩
  unfold al_.f
  refine Ev.neg h1 ?_
  by_cases h22:kind=2
  ·refine Ev.pos h22 ?_
   have:(kind==2)=tgt kind:=by unfold tgt;simp[h22]
   rw[this]
   exact h2
  ·refine Ev.neg h22 ?_
   have:(kind==5)=tgt kind:=by
    unfold tgt
    by_cases h5:kind=5<;>simp[h22,h5]
   rw[this]
   exact h2
theorem txt_any (s:ByteArray):(bytesOf s).any (fun n=>decide (n<32)||decide (n > 126)) = !(bts s).all txtC:=by
 unfold bytesOf
 show((bts s).map fun b=>(b.toNat:Int)).any _=_
 rw[List.any_map]
 induction bts s with
 | nil=>rfl
 | cons b t ih =>
  simp only[List.any_cons,List.all_cons,ih,Bool.not_and,Function.comp]
  congr 1
  unfold txtC
  by_cases h1:(b.toNat:Int)<32
  ·have h2:¬32≤b.toNat:=by omega
   simp[h1,h2]
  ·have h2:32≤b.toNat:=by omega
   by_cases h3:(b.toNat:Int) > 126
   ·have h4:¬b.toNat≤126:=by omega
    simp[h1,h2,h3,h4]
   ·have h4:b.toNat≤126:=by omega
    simp[h1,h2,h3,h4]
theorem implJ1_eq (kind:Int) (s:ByteArray) (hs:s.size≤1048576) (h1:kind≠1):Ev (fun k=>aF_.j1 k s kind (tgt kind)) (if dataOk kind s=true then(dataB kind s,true) else((⟨#[]⟩:ByteArray),false)):=by
 have hz:=bq_ s
 have h0:(⟨#[0]⟩:ByteArray).size=1:=rfl
 unfold dataOk dataB
 rw[if_neg h1,if_neg h1]
 by_cases ht:kind=2∨kind=5
 ·rw[if_pos ht,if_pos ht,show tgt kind=true from decide_eq_true ht]
  apply Ev.succ
  simp only[aF_.j1]
  refine Ev.pos (by first|rfl|trivial) (Ev.bind' _ (isTarget_eq s hs) ?_)
  cases hk:targetOk s with
  | false=>exact Ev.aG_ (Ev.const rfl)
  | true =>
   have hw:=labelBytes_eq s (target_name hk)
   exact Ev.aK_ (Ev.bind' _ hw.1 (Ev.pos (by have:=hw.2;omega) (Ev.const rfl)))
 ·rw[if_neg ht,if_neg ht,show tgt kind=false from decide_eq_false ht]
  by_cases h6:kind=6
  ·rw[if_pos h6,if_pos h6]
   obtain⟨v,hv,hv2⟩:=numberIn_eq s hs 4294967295 (by omega)
   apply Ev.succ
   simp only[aF_.j1]
   refine Ev.neg (by simp) (Ev.pos h6 (Ev.cbind _ hv ?_))
   cases hn:numOk (bts s) 4294967295 with
   | false=>exact Ev.aG_ (Ev.const rfl)
   | true =>
    have:=hv2 hn
    subst this
    exact Ev.aK_ (Ev.bind' _ (big4_eq _) (Ev.const rfl))
  ·rw[if_neg h6,if_neg h6]
   have hbad:∀a b,Ev (fun k=>aF_.j2 k a b true) ((⟨#[]⟩:ByteArray),false):=by
    intro a b
    apply Ev.succ
    simp only[aF_.j2]
    exact Ev.pos (by first|rfl|trivial) (Ev.const rfl)
   by_cases h15:kind=15
   ·rw[if_pos h15,if_pos h15]
    unfold mxOk mxB
    have hcut:=strCut32 s hs
    cases hc:cutB 32 (bts s) with
    | none =>
     rw[hc] at hcut
     simp only at hcut
     obtain⟨v,hv,hv2⟩:=numberIn_eq s hs 65535 (by omega)
     apply Ev.succ
     simp only[aF_.j1]
     refine Ev.neg (by simp) (Ev.neg h6 (Ev.pos h15 (Ev.cbind _ hcut (Ev.cbind _ hv ?_))))
     cases hn:numOk (bts s) 65535 with
     | false=>exact Ev.aG_ (Ev.eq_ (hbad _ _) rfl)
     | true =>
      refine Ev.aK_ (Ev.bind' _ (isTarget_eq (⟨#[]⟩:ByteArray) (by decide)) ?_)
      rw[target_empty]
      exact Ev.eq_ (hbad _ _) rfl
    | some pq =>
     obtain⟨p,q⟩:=pq
     rw[hc] at hcut
     simp only at hcut
     obtain⟨e,hp⟩:=cutB_some hc
     have hlen:(bts s).length=p.length+(q.length+1):=by rw[e];simp
     have hps:(⟨p.toArray⟩:ByteArray).size≤1048576:=by rw[bq_,ci_];omega
     have hqs:(⟨q.toArray⟩:ByteArray).size≤1048576:=by rw[bq_,ci_];omega
     obtain⟨v,hv,hv2⟩:=numberIn_eq ⟨p.toArray⟩ hps 65535 (by omega)
     rw[ci_] at hv hv2
     apply Ev.succ
     simp only[aF_.j1]
     refine Ev.neg (by simp) (Ev.neg h6 (Ev.pos h15 (Ev.cbind _ hcut (Ev.cbind _ hv ?_))))
     cases hn:numOk p 65535 with
     | false=>exact Ev.aG_ (Ev.eq_ (hbad _ _) (by simp))
     | true =>
      have:=hv2 hn
      subst this
      refine Ev.aK_ (Ev.bind' _ (isTarget_eq _ hqs) ?_)
      cases hk:targetOk ⟨q.toArray⟩ with
      | false=>exact Ev.eq_ (hbad _ _) (by simp)
      | true =>
       have hw:=labelBytes_eq _ (target_name hk)
       have hb2:=byt2_size (numOf p)
       apply Ev.succ
       simp only[aF_.j2]
       refine Ev.neg (by simp) (Ev.bind' _ (big2_eq _) (Ev.bind' _ hw.1 (Ev.pos (by have:=hw.2;omega) (Ev.pos (by rw[sz_app,hb2];have:=hw.2;omega) (Ev.const ?_)))))
       simp[ByteArray.append_assoc]
   ·rw[if_neg h15,if_neg h15]
    by_cases h16:kind=16
    ·rw[if_pos h16,if_pos h16]
     apply Ev.succ
     simp only[aF_.j1]
     refine Ev.neg (by simp) (Ev.neg h6 (Ev.neg h15 (Ev.pos h16 ?_)))
     unfold txtOk
     by_cases h30:(s.size:Int) > 30
     ·refine Ev.pos h30 (Ev.const ?_)
      have:¬(bts s).length≤30:=by omega
      simp[this]
     ·have h30':(bts s).length≤30:=by omega
      refine Ev.neg h30 (Ev.pos (by omega) (Ev.bind' _ (aU_.any (bytesOf s) (fun n=>decide (n<32)||decide (n > 126)) (by rw[bytesOf_length];omega) ?_) ?_))
      ·intro n _
       unfold cS_.f
       by_cases hn:n<32
       ·exact Ev.pos hn (Ev.const (by simp[hn]))
       ·exact Ev.neg hn (Ev.const (by simp[hn]))
      ·rw[txt_any]
       have hb1:=byt1_size (s.size:Int)
       cases ha:(bts s).all txtC with
       | false=>exact Ev.aK_ (Ev.const (by simp))
       | true=>exact Ev.aG_ (Ev.bind' _ (big1_eq _) (Ev.pos (by omega) (Ev.const (by simp[h30']))))
    ·rw[if_neg h16]
     apply Ev.succ
     simp only[aF_.j1]
     exact Ev.neg (by simp) (Ev.neg h6 (Ev.neg h15 (Ev.neg h16 (Ev.const rfl))))
theorem implData_eq (kind:Int) (s:ByteArray) (hs:s.size≤1048576):Ev (fun k=>aF_.f k kind s) (if dataOk kind s=true then(dataB kind s,true) else((⟨#[]⟩:ByteArray),false)):=by
 by_cases h1:kind=1
 ·subst h1
  have e1:dataOk 1 s=aOk s:=by unfold dataOk;rw[if_pos rfl]
  have e2:dataB 1 s=aB s:=by unfold dataB;rw[if_pos rfl]
  rw[e1,e2]
  exact implA_eq s hs
 ·have h2:=implJ1_eq kind s hs h1
  unfold aF_.f
  refine Ev.neg h1 ?_
  by_cases h22:kind=2
  ·refine Ev.pos h22 ?_
   have:(kind==2)=tgt kind:=by unfold tgt;simp[h22]
   rw[this]
   exact h2
  ·refine Ev.neg h22 ?_
   have:(kind==5)=tgt kind:=by
    unfold tgt
    by_cases h5:kind=5<;>simp[h22,h5]
   rw[this]
   exact h2
theorem dataBytes_eq (kind:Int) (s:ByteArray) (hs:s.size≤1048576) (h:dataOk kind s=true):Ev (fun k=>cW_.f k kind s) (dataB kind s):=by
 unfold cW_.f
 have:=implData_eq kind s hs
 rw[if_pos h] at this
 exact Ev.bind' _ this (Ev.pos rfl (Ev.const rfl))
theorem numOk_len {l:List UInt8} {m:Int} (h:numOk l m=true):l.length≤10∧isNumeral l=true∧(valF 0 l:Int)≤m:=by
 unfold numOk numOf at h
 simp only[decide_eq_true_eq] at h
 by_cases hn:isNumeral l=true∧l.length≤10
 ·rw[if_pos hn] at h
  exact⟨hn.2,hn.1,h.2⟩
 ·rw[if_neg hn] at h
  omega
theorem numOk_digits {l:List UInt8} {m:Int} (n:Nat) (hn:1≤n) (hm:m<10 ^ n) (h:numOk l m=true):l.length≤n:=by
 obtain⟨h1,h2,h3⟩:=numOk_len h
 rcases Nat.lt_or_ge n l.length with h4|h4
 ·have:=numeral_great l h2 (by omega)
  have h5:10 ^ n≤10 ^ (l.length - 1):=Nat.pow_le_pow_right (by decide) (by omega)
  have h6:((10 ^ n:Nat):Int)≤((valF 0 l:Nat):Int):=by omega
  have h7:((10 ^ n:Nat):Int)=(10:Int) ^ n:=by simp
  omega
 ·exact h4
theorem splitC_total (c:UInt8):∀(l cur:List UInt8),cur.length+l.length+1=((splitC c cur l).map ByteArray.size).sum+(splitC c cur l).length
 | [],cur=>by
  simp only[splitC,List.map_cons,List.map_nil,List.sum_cons,List.sum_nil,List.length_cons,List.length_nil]
  rw[bq_,ci_]
  omega
 | b::l,cur=>by
  unfold splitC
  by_cases hb:b=c
  ·rw[if_pos hb]
   have:=splitC_total c l []
   simp only[List.map_cons,List.sum_cons,List.length_cons,List.length_nil] at this ⊢
   rw[bq_,ci_]
   omega
  ·rw[if_neg hb]
   have:=splitC_total c l (cur++[b])
   simp only[List.length_cons,List.length_append,List.length_nil] at this ⊢
   omega
theorem data_small {kind:Int} {s:ByteArray} (h:dataOk kind s=true):s.size≤100:=by
 have hz:=bq_ s
 unfold dataOk at h
 split at h
 ·unfold aOk at h
  simp only[Bool.and_eq_true,decide_eq_true_eq,List.all_eq_true] at h
  have ht:=splitC_total 46 (bts s) []
  have h4:(splitC 46 [] (bts s)).length=4:=h.2
  have hs:∀x∈splitC 46 [] (bts s),x.size≤3:=by
   intro x hx
   have:=numOk_digits 3 (by omega) (by decide) (h.1 x hx)
   rw[bq_]
   exact this
  have hsum:∀(L:List ByteArray),(∀x∈L,x.size≤3)→(L.map ByteArray.size).sum≤3 * L.length:=by
   intro L
   induction L with
   | nil=>intro _;simp
   | cons x t ih =>
    intro hL
    have h1:=hL x (by simp)
    have h2:=ih (fun y hy=>hL y (by simp[hy]))
    simp only[List.map_cons,List.sum_cons,List.length_cons]
    omega
  have:=hsum _ hs
  simp only[List.length_nil] at ht
  omega
 ·split at h
  ·have:=(nameOk_small (target_name h)).1
   omega
  ·split at h
   ·have:=(numOk_len h).1
    omega
   ·split at h
    ·unfold mxOk at h
     cases hc:cutB 32 (bts s) with
     | none=>rw[hc] at h;cases h
     | some pq =>
      obtain⟨p,q⟩:=pq
      rw[hc] at h
      simp only[Bool.and_eq_true] at h
      obtain⟨e,_⟩:=cutB_some hc
      have h1:=(numOk_len h.1).1
      have h2:=(nameOk_small (target_name h.2)).1
      rw[bq_,ci_] at h2
      have hlen:(bts s).length=p.length+(q.length+1):=by rw[e];simp
      omega
    ·split at h
     ·unfold txtOk at h
      simp only[Bool.and_eq_true,decide_eq_true_eq] at h
      omega
     ·cases h
def recOk (a:ByteArray) (b c:Int) (d:ByteArray):Bool:=dataOk b d&&nameOk a&&inR c 0 100000
theorem specRec_eq (a:ByteArray) (b c:Int) (d:ByteArray) (ha:a.size≤1048576) (hd:d.size≤1048576):Ev (fun k=>cP_.f k a b c d) (recOk a b c d):=by
 unfold cP_.f recOk
 obtain⟨B,h1,h2⟩:=specData_eq b d hd
 refine Ev.bind' _ h1 ?_
 cases hk:dataOk b d with
 | false=>exact Ev.aG_ (Ev.const rfl)
 | true =>
  refine Ev.aK_ (Ev.bind' _ (specGoodName_eq a ha) ?_)
  cases hn:nameOk a with
  | false=>exact Ev.aG_ (Ev.const rfl)
  | true=>exact Ev.aK_ (Ev.cbind _ (l1In_eq _ _ _) (Ev.const (by simp)))
theorem implRec_eq (a:ByteArray) (b c:Int) (d:ByteArray) (ha:a.size≤1048576) (hd:d.size≤1048576):Ev (fun k=>cN_.f k a b c d) (recOk a b c d):=by
 unfold cN_.f recOk
 refine Ev.bind' _ (implGoodName_eq a ha) ?_
 cases hn:nameOk a with
 | false=>exact Ev.aG_ (Ev.const (by simp))
 | true =>
  refine Ev.aK_ (Ev.cbind _ (within_eq _ _ _) ?_)
  cases hr:inR c 0 100000 with
  | false=>exact Ev.aG_ (Ev.const (by simp))
  | true =>
   refine Ev.aK_ ?_
   by_cases h100:(d.size:Int) > 100
   ·refine Ev.pos h100 (Ev.const ?_)
    cases hk:dataOk b d with
    | false=>rfl
    | true=>have:=data_small hk;omega
   ·refine Ev.neg h100 (Ev.bind' _ (implData_eq b d hd) (Ev.const ?_))
    cases hk:dataOk b d<;>simp
def cmpI (a b:Int):Int:=if a<b then -1 else if a > b then 1 else 0
def cmpB (a b:List UInt8):Int:=if Op.bytesLess a b=true then -1 else if a=b then 0 else 1
def cmpRec (a b:aa_):Int :=
 if cmpN a.f0 b.f0=0 then(if a.f1=b.f1 then(if bts (dataB a.f1 a.f3)=bts (dataB b.f1 b.f3) then cmpI a.f2 b.f2
  else(if Op.bytesLess (bts (dataB a.f1 a.f3)) (bts (dataB b.f1 b.f3))=true then -1 else 1)) else(if a.f1<b.f1 then -1 else 1)) else cmpN a.f0 b.f0
def okR (r:aa_):Bool:=recOk r.f0 r.f1 r.f2 r.f3
def szR (r:aa_):Prop:=r.f0.size≤1048576∧r.f3.size≤1048576
theorem okR_data {r:aa_} (h:okR r=true):dataOk r.f1 r.f3=true:=by
 unfold okR recOk at h
 simp only[Bool.and_eq_true] at h
 exact h.1.1
theorem okR_name {r:aa_} (h:okR r=true):nameOk r.f0=true:=by
 unfold okR recOk at h
 simp only[Bool.and_eq_true] at h
 exact h.1.2
theorem less_eq (b:Bool):spec_l3Less.f b=some (if b=true then -1 else 1):=by
 unfold spec_l3Less.f
 split<;>rfl
theorem specCmpRec_eq (a b:aa_) (ha:szR a) (hb:szR b) (ga:okR a=true) (gb:okR b=true):Ev (fun k=>cx_.f k a.f0 a.f1 a.f2 a.f3 b.f0 b.f1 b.f2 b.f3) (cmpRec a b):=by
 unfold cx_.f
 refine Ev.bind' _ (specCompare_eq a.f0 b.f0 ha.1 hb.1 (nameOk_labels' (okR_name ga)) (nameOk_labels' (okR_name gb))) ?_
 by_cases hn:cmpN a.f0 b.f0=0
 ·refine Ev.pos hn ?_
  obtain⟨A,h1,h2⟩:=specData_eq a.f1 a.f3 ha.2
  obtain⟨B,h3,h4⟩:=specData_eq b.f1 b.f3 hb.2
  have hA:=h2 (okR_data ga)
  have hB:=h4 (okR_data gb)
  subst hA
  subst hB
  refine Ev.bind' _ h1 (Ev.bind' _ h3 ?_)
  simp only[bs_]
  by_cases ht:a.f1=b.f1
  ·refine Ev.pos ht ?_
   by_cases hd:bts (dataB a.f1 a.f3)=bts (dataB b.f1 b.f3)
   ·rw[show cmpRec a b=cmpI a.f2 b.f2 from by unfold cmpRec;rw[if_pos hn,if_pos ht,if_pos hd]]
    refine Ev.pos hd ?_
    unfold cmpI
    by_cases hq:a.f2=b.f2
    ·exact Ev.pos hq (Ev.const (by rw[hq];simp))
    ·refine Ev.neg hq (Ev.cbind _ (less_eq _) (Ev.const ?_))
     by_cases hl:a.f2<b.f2
     ·simp[hl]
     ·have:a.f2 > b.f2:=by omega
      simp[hl,this]
   ·rw[show cmpRec a b=(if Op.bytesLess (bts (dataB a.f1 a.f3)) (bts (dataB b.f1 b.f3))=true then -1 else 1) from by unfold cmpRec;rw[if_pos hn,if_pos ht,if_neg hd]]
    exact Ev.neg hd (Ev.cbind _ (less_eq _) (Ev.const rfl))
  ·rw[show cmpRec a b=(if a.f1<b.f1 then -1 else 1) from by unfold cmpRec;rw[if_pos hn,if_neg ht]]
   refine Ev.neg ht (Ev.cbind _ (less_eq _) (Ev.const ?_))
   by_cases hl:a.f1<b.f1<;>simp[hl]
 ·rw[show cmpRec a b=cmpN a.f0 b.f0 from by unfold cmpRec;rw[if_neg hn]]
  exact Ev.neg hn (Ev.const rfl)
theorem bytesLess_irr:∀(a:List UInt8),Op.bytesLess a a=false
 | []=>rfl
 | x::a=>by
  have h:¬x<x:=by simp
  unfold Op.bytesLess
  simp[h,bytesLess_irr a]
theorem compareBytes_eq:∀(a b:List UInt8),Go.Lib.compareBytes a b=cmpB a b
 | [],[]=>rfl
 | [],y::b=>rfl
 | x::a,[]=>by
  unfold Go.Lib.compareBytes cmpB
  have:Op.bytesLess (x::a) []=false:=rfl
  rw[this]
  simp
 | x::a,y::b=>by
  have ih:=compareBytes_eq a b
  unfold Go.Lib.compareBytes
  unfold cmpB at ih ⊢
  have e:Op.bytesLess (x::a) (y::b)=(decide (x<y)||(x==y&&Op.bytesLess a b)):=rfl
  rw[e]
  by_cases h1:x<y
  ·rw[if_pos h1];simp[h1]
  ·rw[if_neg h1]
   by_cases h2:y<x
   ·rw[if_pos h2]
    have h3:¬x=y:=by
     intro h
     subst h
     exact h1 h2
    simp[h1,h3]
   ·rw[if_neg h2]
    have h3:x=y:=by
     apply UInt8.toNat_inj.mp
     have h4:¬x.toNat<y.toNat:=fun h=>h1 (UInt8.lt_iff_toNat_lt.mpr h)
     have h5:¬y.toNat<x.toNat:=fun h=>h2 (UInt8.lt_iff_toNat_lt.mpr h)
     omega
    subst h3
    rw[ih]
    simp[h1]
def orI:List Int→Int
 | []=>0
 | x::t=>if x=0 then orI t else x
theorem cmpOr_eq (l:List Int) (hl:l.length≤1048576):Ev (fun k=>cf_.f k l) (orI l):=by
 unfold cf_.f
 refine Ev.eq_ (a4_ l (fun k (_:Unit) i=>cf_.l0 k 0 l (l.length:Int) i) (fun _ t=>orI t) (fun _ _=>True) ?_ ?_ () trivial) rfl
 ·intro _ _
  apply Ev.succ
  simp only[cf_.l0]
  exact Ev.neg (by omega) (Ev.const rfl)
 ·intro p x t _ e _ ih
  have hm:=bc_ e
  apply Ev.succ
  simp only[cf_.l0,rd_mid' e]
  refine Ev.pos hm.1 (Ev.pos (by omega) (Ev.pos hm.1 ?_))
  rw[w64 (i:=(p.length:Int)+1) (by omega) (by omega)]
  by_cases h:x=0
  ·exact Ev.pos h (Ev.eq_ (ih () trivial) (by simp[orI,h]))
  ·exact Ev.neg h (Ev.const (by simp[orI,h]))
theorem cmpInt_eq (a b:Int):cO_.f a b=some (cmpI a b):=by
 unfold cO_.f b4_.f cmpI
 simp only[Option.bind_some,bne_self_eq_false,Bool.false_eq_true,if_false]
 split
 ·rfl
 ·split<;>rfl
theorem keys_eq (a b:aa_) (ha:szR a) (hb:szR b):Ev (fun k=>bQ_.f k a.f0 a.f1 a.f2 a.f3 b.f0 b.f1 b.f2 b.f3) (orI [cmpN a.f0 b.f0,cmpI a.f1 b.f1]):=by
 unfold bQ_.f
 exact Ev.bind' _ (compareNames_eq a.f0 b.f0 ha.1 hb.1) (Ev.cbind _ (cmpInt_eq _ _) (Ev.bind' _ (cmpOr_eq _ (by simp)) (Ev.const rfl)))
theorem cmpI_zero {a b:Int}:cmpI a b=0↔a=b:=by
 unfold cmpI
 by_cases h1:a<b
 ·simp[h1];omega
 ·by_cases h2:a > b
  ·simp[h1,h2];omega
  ·simp[h1,h2];omega
theorem implCmpRec_eq (a b:aa_) (ha:szR a) (hb:szR b) (ga:okR a=true) (gb:okR b=true):Ev (fun k=>a9_.f k a.f0 a.f1 a.f2 a.f3 b.f0 b.f1 b.f2 b.f3) (cmpRec a b):=by
 unfold a9_.f
 refine Ev.bind' _ (keys_eq a b ha hb) (Ev.bind' _ (dataBytes_eq _ _ ha.2 (okR_data ga)) (Ev.bind' _ (dataBytes_eq _ _ hb.2 (okR_data gb)) (Ev.cbind (cmpB (bts (dataB a.f1 a.f3)) (bts (dataB b.f1 b.f3))) ?_ (Ev.cbind _ (cmpInt_eq _ _) (Ev.bind' _ (cmpOr_eq _ (by simp)) (Ev.const ?_))))))
 ·unfold strings_Compare.f
  rw[compareBytes_eq]
  rfl
 ·rw[Option.some.injEq]
  have o3:∀x y z:Int,orI [orI [cmpN a.f0 b.f0,x],y,z]=if cmpN a.f0 b.f0=0 then(if x=0 then(if y=0 then z else y) else x) else cmpN a.f0 b.f0:=by
   intro x y z
   simp only[orI]
   by_cases hn:cmpN a.f0 b.f0=0
   ·by_cases hx:x=0
    ·by_cases hy:y=0
     ·by_cases hz:z=0<;>simp[hn,hx,hy,hz]
     ·simp[hn,hx,hy]
    ·simp[hn,hx]
   ·simp[hn]
  rw[o3]
  unfold cmpRec
  by_cases hn:cmpN a.f0 b.f0=0
  ·rw[if_pos hn,if_pos hn]
   by_cases ht:a.f1=b.f1
   ·rw[if_pos ht,if_pos (cmpI_zero.mpr ht)]
    unfold cmpB
    by_cases hd:bts (dataB a.f1 a.f3)=bts (dataB b.f1 b.f3)
    ·rw[if_pos hd,hd,bytesLess_irr]
     simp
    ·rw[if_neg hd]
     by_cases hl:Op.bytesLess (bts (dataB a.f1 a.f3)) (bts (dataB b.f1 b.f3))=true
     ·simp[hl,hd]
     ·simp[hl,hd]
   ·rw[if_neg ht,if_neg (fun h=>ht (cmpI_zero.mp h))]
    unfold cmpI
    by_cases hl:a.f1<b.f1
    ·simp[hl]
    ·have:a.f1 > b.f1:=by omega
     simp[hl,this]
  ·rw[if_neg hn,if_neg hn]
def riseFrom:aa_→List aa_→Bool
 | _,[]=>true
 | a,b::t=>okR b&&decide (cmpRec a b<0)&&riseFrom b t
def rises:List aa_→Bool
 | []=>true
 | a::t=>okR a&&riseFrom a t
def riseP (p:Option aa_) (l:List aa_):Bool:=match p with
 | none=>rises l
 | some a=>riseFrom a l
theorem getLast_mid {α:Type} {l p t:List α} {x:α} {d:α} (e:l=p++x::t) (hp:p≠[]):l.getD ((p.length:Int) - 1).toNat d=p.getLast hp:=by
 have h1:p=p.dropLast++[p.getLast hp]:=(List.dropLast_concat_getLast hp).symm
 have hl:0<p.length:=List.length_pos_iff.mpr hp
 have h2:((p.length:Int) - 1).toNat=p.dropLast.length:=by rw[List.length_dropLast];omega
 rw[h2]
 have e2:l=p.dropLast++(p.getLast hp::x::t):=by
  rw[e]
  conv=>lhs;rw[h1]
  simp only[List.append_assoc,List.singleton_append]
 rw[e2]
 simp[List.getD_eq_getElem?_getD]
theorem lastOpt_some {α:Type} {p:List α} (hp:p≠[]):p.getLast? = some (p.getLast hp):=List.getLast?_eq_some_getLast hp
theorem specList_eq (l:List aa_) (hl:l.length≤1048576) (hs:∀r∈l,szR r):Ev (fun k=>be_.f k l) (rises l&&decide (l.length≤40)):=by
 unfold be_.f
 refine Ev.eq_ (a4_ l (fun k (_:Unit) i=>be_.l0 k l l (l.length:Int) i) (fun _ t=>riseP (l.take (l.length - t.length)).getLast? t&&decide (l.length≤40)) (fun p _=>∀r∈p,okR r=true) ?_ ?_ () (by simp)) (by simp[riseP])
 ·intro _ _
  apply Ev.succ
  simp only[be_.l0]
  refine Ev.neg (by omega) (Ev.const ?_)
  rw[show decide ((l.length:Int)≤40)=decide (l.length≤40) from decide_eq_decide.mpr (by omega)]
  cases(List.take (l.length - ([]:List aa_).length) l).getLast?<;>simp[riseP,rises,riseFrom]
 ·intro p x t _ e hp ih
  have hm:=bc_ e
  have hx:=hs x (b5_ e)
  have ht1:l.take (l.length - (x::t).length)=p:=by rw[e];simp
  have ht2:l.take (l.length - t.length)=p++[x]:=by
   have e3:l=(p++[x])++t:=by rw[e];simp
   have e4:l.length - t.length=(p++[x]).length:=by rw[hm.2.2];simp<;>omega
   rw[e4,e3,List.take_left']
   rfl
  rw[ht1]
  rw[ht2] at ih
  apply Ev.succ
  simp only[be_.l0,a_,bt_ e]
  refine Ev.pos hm.1 (Ev.pos (by omega) (Ev.pos hm.1 (Ev.bind' (okR x) (specRec_eq _ _ _ _ hx.1 hx.2) ?_)))
  have hlast:(p++[x]).getLast? = some x:=by simp
  rw[hlast] at ih
  cases hk:okR x with
  | false =>
   refine Ev.aG_ (Ev.const ?_)
   cases p.getLast?<;>simp[riseP,rises,riseFrom,hk]
  | true =>
   refine Ev.aK_ ?_
   have hgo:=ih () (by intro r hr;rcases List.mem_append.mp hr with h|h;exact hp r h;simp only[List.mem_singleton] at h;rw[h];exact hk)
   by_cases hp0:p=[]
   ·subst hp0
    refine Ev.neg (by simp) ?_
    rw[w64 (by simp) (by simp)]
    refine Ev.eq_ hgo ?_
    simp[riseP,rises,hk]
   ·have hpl:0<p.length:=List.length_pos_iff.mpr hp0
    rw[w64 (i:=(p.length:Int) - 1) (by omega) (by omega),w64 (i:=(p.length:Int)+1) (by omega) (by omega),getLast_mid e hp0]
    have hlm:p.getLast hp0∈l:=by rw[e];exact List.mem_append_left _ (List.getLast_mem hp0)
    refine Ev.pos (by omega) (Ev.pos (by omega) (Ev.pos (by omega) (Ev.bind' _ (specCmpRec_eq _ x (hs _ hlm) hx (hp _ (List.getLast_mem hp0)) hk) ?_)))
    rw[lastOpt_some hp0]
    by_cases hc:cmpRec (p.getLast hp0) x≥0
    ·refine Ev.pos hc (Ev.const ?_)
     have:¬cmpRec (p.getLast hp0) x<0:=by omega
     simp[riseP,riseFrom,this]
    ·refine Ev.neg hc (Ev.eq_ hgo ?_)
     have:cmpRec (p.getLast hp0) x<0:=by omega
     simp[riseP,riseFrom,this,hk]
theorem areRising_eq (l:List aa_) (hl:l.length≤1048576) (hs:∀r∈l,szR r):Ev (fun k=>aS_.f k l) (rises l):=by
 unfold aS_.f
 refine Ev.eq_ (a4_ l (fun k (_:Unit) i=>aS_.l0 k l l (l.length:Int) i) (fun _ t=>riseP (l.take (l.length - t.length)).getLast? t) (fun p _=>∀r∈p,okR r=true) ?_ ?_ () (by simp)) (by simp[riseP])
 ·intro _ _
  apply Ev.succ
  simp only[aS_.l0]
  refine Ev.neg (by omega) (Ev.const ?_)
  cases(List.take (l.length - ([]:List aa_).length) l).getLast?<;>simp[riseP,rises,riseFrom]
 ·intro p x t _ e hp ih
  have hm:=bc_ e
  have hx:=hs x (b5_ e)
  have ht1:l.take (l.length - (x::t).length)=p:=by rw[e];simp
  have ht2:l.take (l.length - t.length)=p++[x]:=by
   have e3:l=(p++[x])++t:=by rw[e];simp
   have e4:l.length - t.length=(p++[x]).length:=by rw[hm.2.2];simp<;>omega
   rw[e4,e3,List.take_left']
   rfl
  rw[ht1]
  rw[ht2] at ih
  apply Ev.succ
  simp only[aS_.l0,a_,bt_ e]
  refine Ev.pos hm.1 (Ev.pos (by omega) (Ev.pos hm.1 (Ev.bind' (okR x) (implRec_eq _ _ _ _ hx.1 hx.2) ?_)))
  have hlast:(p++[x]).getLast? = some x:=by simp
  rw[hlast] at ih
  cases hk:okR x with
  | false =>
   refine Ev.aG_ (Ev.const ?_)
   cases p.getLast?<;>simp[riseP,rises,riseFrom,hk]
  | true =>
   refine Ev.aK_ ?_
   have hgo:=ih () (by intro r hr;rcases List.mem_append.mp hr with h|h;exact hp r h;simp only[List.mem_singleton] at h;rw[h];exact hk)
   by_cases hp0:p=[]
   ·subst hp0
    refine Ev.neg (by simp) ?_
    rw[w64 (by simp) (by simp)]
    refine Ev.eq_ hgo ?_
    simp[riseP,rises,hk]
   ·have hpl:0<p.length:=List.length_pos_iff.mpr hp0
    rw[w64 (i:=(p.length:Int) - 1) (by omega) (by omega),w64 (i:=(p.length:Int)+1) (by omega) (by omega),getLast_mid e hp0]
    have hlm:p.getLast hp0∈l:=by rw[e];exact List.mem_append_left _ (List.getLast_mem hp0)
    refine Ev.pos (by omega) (Ev.pos (by omega) (Ev.pos (by omega) (Ev.bind' _ (implCmpRec_eq _ x (hs _ hlm) hx (hp _ (List.getLast_mem hp0)) hk) ?_)))
    rw[lastOpt_some hp0]
    by_cases hc:cmpRec (p.getLast hp0) x≥0
    ·refine Ev.pos hc (Ev.const ?_)
     have:¬cmpRec (p.getLast hp0) x<0:=by omega
     simp[riseP,riseFrom,this]
    ·refine Ev.neg hc (Ev.eq_ hgo ?_)
     have:cmpRec (p.getLast hp0) x<0:=by omega
     simp[riseP,riseFrom,this,hk]
def eqR (x y:aa_):Bool:=decide (bts x.f0=bts y.f0)&&decide (x.f1=y.f1)&&decide (x.f2=y.f2)&&decide (bts x.f3=bts y.f3)
theorem beq_dec {α:Type} [BEq α] [LawfulBEq α] [DecidableEq α] (a b:α):(a==b)=decide (a=b):=by
 by_cases h:a=b<;>simp[h]
theorem eqR_spec (x y:aa_):((x.f0.toList)==y.f0.toList&&(x.f1==y.f1&&(x.f2==y.f2&&(x.f3.toList==y.f3.toList))))=eqR x y:=by
 unfold eqR
 simp only[bs_,beq_dec,Bool.and_assoc]
theorem eqR_symm (x y:aa_):eqR x y=eqR y x:=by
 unfold eqR
 simp only[eq_comm]
def cRec (x:a5_):aa_:=⟨x.f0,x.f1,x.f2,x.f3⟩
theorem szRecordS_eq (l:List a5_) (h:l.length≤maxLen∧∀x∈l,WF_LRecord x) (a:Int) (h0:0≤a) (h1:a≤1048576):Szd (fun k=>bp_.f k l a) a (l.length≤1048576∧∀x∈l,x.f0.size≤1048576∧x.f3.size≤1048576):=by
 have hm:maxLen=9223372036854775807:=rfl
 unfold bp_.f
 by_cases hl:l.length≤1048576
 ·refine Szd.size _ (by omega) h0 h1 (fun a' e ha hb=>?_)
  rw[e]
  refine Szd.list l hl (fun k a i=>bp_.l0 k l a i) (fun x=>x.f0.size≤1048576∧x.f3.size≤1048576) ?_ ?_ a' ha hb
  ·intro a ha hb
   refine⟨a,Ev.succ ?_,Or.inr ⟨ha,Int.le_refl _,trivial⟩⟩
   simp only[bp_.l0]
   exact Ev.neg (by omega) (Ev.const rfl)
  ·intro p x t a e ha hb _ C hC
   have hm2:=bc_ e
   have hx:=h.2 x (b5_ e)
   have hel:Szd (fun _:Nat=>laws_szRecord.f x.f0 x.f1 x.f2 x.f3 a) a (x.f0.size≤1048576∧x.f3.size≤1048576):=by
    unfold laws_szRecord.f
    refine(Szd.size _ (by have:=hx.1;omega) ha hb (fun a' e2 ha' hb'=>?_))
    rw[e2]
    exact(Szd.size _ (by have:=hx.2.2.2;omega) ha' hb' (fun a'' e3 ha'' hb''=>by rw[e3];exact Szd.end_ ha'')).mono (fun h=>h.1)
   obtain⟨r,hr,hh⟩:=Szd.cbind (g:=fun k t=>bp_.l0 k l t ((p.length:Int)+1)) hel hb (fun r h3 h4=>hC r h3 h4)
   refine⟨r,Ev.succ ?_,hh⟩
   simp only[bp_.l0,bG_,bt_ e]
   rw[w64 (i:=(p.length:Int)+1) (by omega) (by omega)]
   exact Ev.pos hm2.1 (Ev.pos (by omega) hr)
 ·have:=h.1
  refine⟨-1,Ev.pos ?_ (Ev.const rfl),Or.inl (by omega)⟩
  rw[w64 (by omega) (by omega)]
  omega
theorem toRecordS_eq (l:List a5_) (hl:l.length≤1048576):Ev (fun k=>by_.f k l) (l.map cRec):=by
 unfold by_.f
 refine Ev.pos (by omega) (Ev.pos (by simp;omega) ?_)
 refine to_list l cRec (fun k s i=>by_.l0 k l s i) ?_ ?_ _ (by simp)
 ·intro s
  apply Ev.succ
  simp only[by_.l0]
  exact Ev.neg (by omega) (Ev.const rfl)
 ·intro p x t s r e hs h
  have hm:=bc_ e
  apply Ev.succ
  simp only[by_.l0,bG_,bt_ e]
  rw[w64 (i:=(p.length:Int)+1) (by omega) (by omega)]
  exact Ev.pos hm.1 (Ev.pos (by omega) (Ev.cbind _ rfl (Ev.pos (by omega) h)))
theorem eqRecord_eq (a:ByteArray) (b c:Int) (d:ByteArray):laws_eqRecord.f a b c d a b c d=some true:=by
 unfold laws_eqRecord.f
 simp
theorem eqRecordS_eq (l:List aa_) (hl:l.length≤1048576):Ev (fun k=>aY_.f k l l) true:=by
 unfold aY_.f
 refine Ev.pos rfl (eq_list l (fun k i=>aY_.l0 k l l i) ?_ ?_)
 ·apply Ev.succ
  simp only[aY_.l0]
  exact Ev.neg (by omega) (Ev.const rfl)
 ·intro p x t e h
  have hm:=bc_ e
  apply Ev.succ
  simp only[aY_.l0]
  rw[w64 (i:=(p.length:Int)+1) (by omega) (by omega)]
  exact Ev.pos hm.1 (Ev.pos (by omega) (Ev.pos hm.1 (Ev.cbind _ (eqRecord_eq _ _ _ _) (Ev.aK_ h))))
theorem ak_.idx (l0:List (aa_)) (a1_0:Int) (a1_1:Int) (l1_2:List (aa_)) (l1_3:List (aa_)) (q:(aa_)→Bool) (hl:l0.length≤1048576) (h:∀x∈l0,Ev (fun k=>cQ_.f k (x.f0) (x.f1) (x.f2) (x.f3) a1_0 a1_1 l1_2 l1_3) (q x)):Ev (fun k=>ak_.f k l0 a1_0 a1_1 l1_2 l1_3) (idxP q l0):=by
 unfold ak_.f
 refine Ev.eq_ (a4_ l0 (fun k (_:Nat) i=>ak_.l0 k l0 (l0.length:Int) i a1_0 a1_1 l1_2 l1_3) (fun n t=>if 0≤idxP q t then(n:Int)+idxP q t else -1) (fun p n=>n=p.length) ?_ ?_ 0 rfl) ?_
 ·intro n hn
  apply Ev.succ
  simp only[ak_.l0]
  exact Ev.neg (by omega) (Ev.const (by simp[idxP]))
 ·intro p x t n e hn ih
  have hm:=bc_ e
  have hx:=h x (b5_ e)
  apply Ev.succ
  simp only[ak_.l0,a_,bt_ e]
  refine Ev.pos hm.1 (Ev.pos (by omega) (Ev.pos hm.1 (Ev.bind' _ hx ?_)))
  have hq:idxP q (x::t)=(if q x then 0 else if 0≤idxP q t then idxP q t+1 else -1):=rfl
  rw[hq]
  cases q x with
  | true=>exact Ev.aK_ (Ev.const (by simp[hn]))
  | false =>
   refine Ev.aG_ ?_
   rw[w64 (by omega) (by omega)]
   refine Ev.eq_ (ih (n+1) (by simp[hn])) ?_
   by_cases h2:0≤idxP q t
   ·simp[h2];omega
   ·simp[h2]
 ·by_cases h2:0≤idxP q l0
  ·simp[h2]
  ·rw[if_neg h2]
   exact(idxP_neg q l0 h2).symm
theorem aN_.any (l0:List (aa_)) (a1_0:Int) (a1_1:Int) (l1_2:List (aa_)) (l1_3:List (aa_)) (q:(aa_)→Bool) (hl:l0.length≤1048576) (h:∀x∈l0,Ev (fun k=>cQ_.f k (x.f0) (x.f1) (x.f2) (x.f3) a1_0 a1_1 l1_2 l1_3) (q x)):Ev (fun k=>aN_.f k l0 a1_0 a1_1 l1_2 l1_3) (l0.any q):=by
 unfold aN_.f
 refine Ev.bind' _ (ak_.idx l0 a1_0 a1_1 l1_2 l1_3 q hl h) (Ev.const ?_)
 rw[idxP_nonneg]
def hasR (l:List aa_) (r:aa_):Bool:=l.any (fun x=>eqR x r)
theorem specHas_eq (l:List aa_) (r:aa_) (hl:l.length≤1048576):Ev (fun k=>bR_.f k l r.f0 r.f1 r.f2 r.f3) (hasR l r):=by
 unfold bR_.f hasR
 refine Ev.eq_ (a4_ l (fun k (_:Unit) i=>bR_.l0 k l (l.length:Int) i r.f0 r.f1 r.f2 r.f3) (fun _ t=>t.any (fun x=>eqR x r)) (fun _ _=>True) ?_ ?_ () trivial) rfl
 ·intro _ _
  apply Ev.succ
  simp only[bR_.l0]
  exact Ev.neg (by omega) (Ev.const rfl)
 ·intro p x t _ e _ ih
  have hm:=bc_ e
  apply Ev.succ
  simp only[bR_.l0,a_,bt_ e,eqR_spec]
  refine Ev.pos hm.1 (Ev.pos (by omega) (Ev.pos hm.1 ?_))
  rw[w64 (i:=(p.length:Int)+1) (by omega) (by omega)]
  cases hq:eqR x r with
  | true=>exact Ev.aK_ (Ev.const (by simp[hq]))
  | false=>exact Ev.aG_ (Ev.eq_ (ih () trivial) (by simp[hq]))
theorem index_eq (l:List aa_) (r:aa_) (hl:l.length≤1048576):Ev (fun k=>aI_.f k l r.f0 r.f1 r.f2 r.f3) (idxP (fun x=>eqR r x) l):=by
 unfold aI_.f
 refine Ev.eq_ (a4_ l (fun k (_:Nat) i=>aI_.l0 k l (l.length:Int) i r.f0 r.f1 r.f2 r.f3) (fun n t=>if 0≤idxP (fun x=>eqR r x) t then(n:Int)+idxP (fun x=>eqR r x) t else -1) (fun p n=>n=p.length) ?_ ?_ 0 rfl) ?_
 ·intro n hn
  apply Ev.succ
  simp only[aI_.l0]
  exact Ev.neg (by omega) (Ev.const (by simp[idxP]))
 ·intro p x t n e hn ih
  have hm:=bc_ e
  apply Ev.succ
  simp only[aI_.l0,a_,bt_ e,eqR_spec]
  refine Ev.pos hm.1 (Ev.pos (by omega) (Ev.pos hm.1 ?_))
  have hq:idxP (fun x=>eqR r x) (x::t)=(if eqR r x then 0 else if 0≤idxP (fun x=>eqR r x) t then idxP (fun x=>eqR r x) t+1 else -1):=rfl
  rw[hq]
  cases eqR r x with
  | true=>exact Ev.aK_ (Ev.const (by simp[hn]))
  | false =>
   refine Ev.aG_ ?_
   rw[w64 (by omega) (by omega)]
   refine Ev.eq_ (ih (n+1) (by simp[hn])) ?_
   by_cases h2:0≤idxP (fun x=>eqR r x) t
   ·simp[h2];omega
   ·simp[h2]
 ·by_cases h2:0≤idxP (fun x=>eqR r x) l
  ·simp[h2]
  ·rw[if_neg h2]
   exact(idxP_neg _ l h2).symm
theorem contains_eq (l:List aa_) (r:aa_) (hl:l.length≤1048576):Ev (fun k=>ba_.f k l r.f0 r.f1 r.f2 r.f3) (hasR l r):=by
 unfold ba_.f
 refine Ev.bind' _ (index_eq l r hl) (Ev.const ?_)
 rw[idxP_nonneg]
 unfold hasR
 congr 2
 funext x
 exact eqR_symm r x
def cntOk (n:Int):Bool:=inR n 0 1152921504606846976
def goodD (a b:Int) (dels adds:List aa_):Bool :=
 cntOk a&&cntOk b && !decide (a=b)&&decide (dels.length≤40)&&decide (adds.length≤40)&&rises dels&&rises adds && !dels.any (hasR adds)
theorem counter_eq (n:Int):bT_.f n=some (cntOk n):=by
 unfold bT_.f
 rw[l1In_eq]
 rfl
theorem isCounter_eq (n:Int):bd_.f n=some (cntOk n):=by
 unfold bd_.f
 rw[within_eq]
 rfl
theorem specGoodDiff_eq (a b:Int) (dels adds:List aa_) (h1:dels.length≤1048576) (h2:adds.length≤1048576) (s1:∀r∈dels,szR r) (s2:∀r∈adds,szR r):Ev (fun k=>a2_.f k a b dels adds) (goodD a b dels adds):=by
 have hbad:goodD a b dels adds=false→Ev (fun k=>a2_.j0 k true a b dels adds) (goodD a b dels adds):=by
  intro h
  apply Ev.succ
  simp only[a2_.j0]
  exact Ev.pos (by first|rfl|trivial) (Ev.const (by rw[h]))
 unfold a2_.f
 refine Ev.cbind _ (counter_eq a) ?_
 cases ha:cntOk a with
 | false=>exact Ev.aG_ (hbad (by unfold goodD;simp[ha]))
 | true =>
  refine Ev.aK_ (Ev.cbind _ (counter_eq b) ?_)
  cases hb:cntOk b with
  | false=>exact Ev.aG_ (hbad (by unfold goodD;simp[hb]))
  | true =>
   refine Ev.aK_ ?_
   by_cases hab:a=b
   ·exact Ev.pos hab (hbad (by unfold goodD;simp[hab]))
   ·refine Ev.neg hab (Ev.bind' _ (specList_eq dels h1 s1) ?_)
    cases hd:rises dels&&decide (dels.length≤40) with
    | false =>
     refine Ev.aG_ (hbad ?_)
     unfold goodD
     cases h3:rises dels<;>simp_all<;>(intros;omega)
    | true =>
     refine Ev.aK_ (Ev.bind' _ (specList_eq adds h2 s2) ?_)
     simp only[Bool.and_eq_true,decide_eq_true_eq] at hd
     cases hq:rises adds&&decide (adds.length≤40) with
     | false =>
      refine Ev.eq_ (hbad ?_) rfl
      unfold goodD
      cases h3:rises adds<;>simp_all<;>(intros;omega)
     | true =>
      simp only[Bool.and_eq_true,decide_eq_true_eq] at hq
      have hg:goodD a b dels adds = !dels.any (hasR adds):=by
       unfold goodD
       simp[ha,hb,hab,hd,hq]
      rw[hg]
      apply Ev.succ
      simp only[a2_.j0]
      refine Ev.neg (by simp) ?_
      refine Ev.eq_ (a4_ dels (fun k (_:Unit) i=>a2_.l0 k dels (dels.length:Int) i a b dels adds) (fun _ t => !t.any (hasR adds)) (fun _ _=>True) ?_ ?_ () trivial) rfl
      ·intro _ _
       apply Ev.succ
       simp only[a2_.l0]
       exact Ev.neg (by omega) (Ev.const rfl)
      ·intro p x t _ e _ ih
       have hm:=bc_ e
       apply Ev.succ
       simp only[a2_.l0,a_,bt_ e]
       refine Ev.pos hm.1 (Ev.pos (by omega) (Ev.pos hm.1 (Ev.bind' _ (specHas_eq adds x h2) ?_)))
       rw[w64 (i:=(p.length:Int)+1) (by omega) (by omega)]
       cases hx:hasR adds x with
       | true=>exact Ev.aK_ (Ev.const (by simp[hx]))
       | false=>exact Ev.aG_ (Ev.eq_ (ih () trivial) (by simp[hx]))
theorem implGoodDiff_eq (a b:Int) (dels adds:List aa_) (h1:dels.length≤1048576) (h2:adds.length≤1048576) (s1:∀r∈dels,szR r) (s2:∀r∈adds,szR r):Ev (fun k=>ch_.f k a b dels adds) (goodD a b dels adds):=by
 unfold ch_.f
 have hd:Ev (fun k=>impl_isDiff.f k a b dels adds) (cntOk a&&cntOk b && !decide (a=b)&&decide (dels.length≤40)&&decide (adds.length≤40)&&rises dels&&rises adds):=by
  unfold impl_isDiff.f
  refine Ev.cbind _ (isCounter_eq a) ?_
  cases ha:cntOk a with
  | false=>exact Ev.aG_ (Ev.const (by simp))
  | true =>
   refine Ev.aK_ (Ev.cbind _ (isCounter_eq b) ?_)
   cases hb:cntOk b with
   | false=>exact Ev.aG_ (Ev.const (by simp))
   | true =>
    refine Ev.aK_ ?_
    by_cases hab:a=b
    ·exact Ev.pos hab (Ev.const (by simp[hab]))
    ·refine Ev.neg hab ?_
     by_cases h40:(dels.length:Int)≤40
     ·refine Ev.pos h40 ?_
      have h40':dels.length≤40:=by omega
      by_cases h41:(adds.length:Int)≤40
      ·refine Ev.pos h41 (Ev.bind' _ (areRising_eq dels h1 s1) ?_)
       have h41':adds.length≤40:=by omega
       cases hr:rises dels with
       | false=>exact Ev.aG_ (Ev.const (by simp))
       | true=>exact Ev.aK_ (Ev.bind' _ (areRising_eq adds h2 s2) (Ev.const (by simp[hab,h40',h41'])))
      ·have h41':¬adds.length≤40:=by omega
       exact Ev.neg h41 (Ev.const (by simp[h41']))
     ·have h40':¬dels.length≤40:=by omega
      exact Ev.neg h40 (Ev.const (by simp[h40']))
 refine Ev.bind' _ hd ?_
 unfold goodD
 cases hg:(cntOk a&&cntOk b && !decide (a=b)&&decide (dels.length≤40)&&decide (adds.length≤40)&&rises dels&&rises adds) with
 | false=>exact Ev.aG_ (Ev.const (by simp))
 | true =>
  refine Ev.aK_ (Ev.bind' _ (aN_.any dels a b dels adds (hasR adds) h1 (fun x hx=>?_)) (Ev.const (by simp)))
  unfold cQ_.f
  exact Ev.bind' _ (contains_eq adds x h2) (Ev.const rfl)
theorem toDiff_eq (a b:Int) (l m:List a5_) (hl:l.length≤1048576) (hm:m.length≤1048576):Ev (fun k=>laws_toDiff.f k a b l m) (a,b,l.map cRec,m.map cRec):=by
 unfold laws_toDiff.f
 exact Ev.bind' _ (toRecordS_eq l hl) (Ev.bind' _ (toRecordS_eq m hm) (Ev.const rfl))
theorem eqDiff_eq (a b:Int) (l m:List aa_) (hl:l.length≤1048576) (hm:m.length≤1048576):Ev (fun k=>laws_eqDiff.f k a b l m a b l m) true:=by
 unfold laws_eqDiff.f
 exact Ev.pos rfl (Ev.pos rfl (Ev.bind' _ (eqRecordS_eq l hl) (Ev.aK_ (Ev.bind' _ (eqRecordS_eq m hm) (Ev.aK_ (Ev.const rfl))))))
theorem szDiff_eq (a b:Int) (l m:List a5_) (hl:l.length≤maxLen∧∀x∈l,WF_LRecord x) (hm:m.length≤maxLen∧∀x∈m,WF_LRecord x) (n:Int) (h0:0≤n) (h1:n≤1048576) :
  Szd (fun k=>laws_szDiff.f k a b l m n) n ((l.length≤1048576∧∀x∈l,x.f0.size≤1048576∧x.f3.size≤1048576)∧(m.length≤1048576∧∀x∈m,x.f0.size≤1048576∧x.f3.size≤1048576)):=by
 unfold laws_szDiff.f
 refine(Szd.bind (szRecordS_eq l hl n h0 h1) h1 (fun r h2 h3=>?_))
 exact(Szd.bind (szRecordS_eq m hm r h2 h3) h3 (fun q h4 h5=>Szd.end_ h4)).mono (fun h=>h.1)
theorem szR_map {l:List a5_} (h:∀x∈l,x.f0.size≤1048576∧x.f3.size≤1048576):∀r∈l.map cRec,szR r:=by
 intro r hr
 obtain⟨x,hx,rfl⟩:=List.mem_map.mp hr
 exact h x hx
structure Cmp {α:Type} (c:α→α→Int):Prop where
 anti:∀a b,c b a = - c a b
 trans:∀a b d,c a b≤0→c b d≤0→c a d≤0
theorem Cmp.self {α:Type} {c:α→α→Int} (h:Cmp c) (a:α):c a a=0:=by
 have:=h.anti a a
 omega
theorem Cmp.lt_le {α:Type} {c:α→α→Int} (h:Cmp c) {a b d:α} (h1:c a b<0) (h2:c b d≤0):c a d<0:=by
 have h3:=h.trans a b d (by omega) h2
 by_cases h4:c a d=0
 ·have h5:=h.anti a d
  have h6:=h.trans b d a h2 (by omega)
  have h7:=h.anti a b
  omega
 ·omega
theorem Cmp.le_lt {α:Type} {c:α→α→Int} (h:Cmp c) {a b d:α} (h1:c a b≤0) (h2:c b d<0):c a d<0:=by
 have h3:=h.trans a b d h1 (by omega)
 by_cases h4:c a d=0
 ·have h5:=h.anti a d
  have h6:=h.trans d a b (by omega) h1
  have h7:=h.anti b d
  omega
 ·omega
theorem Cmp.lt_trans {α:Type} {c:α→α→Int} (h:Cmp c) {a b d:α} (h1:c a b<0) (h2:c b d<0):c a d<0:=h.lt_le h1 (by omega)
theorem Cmp.eq_trans {α:Type} {c:α→α→Int} (h:Cmp c) {a b d:α} (h1:c a b=0) (h2:c b d=0):c a d=0:=by
 have h3:=h.trans a b d (by omega) (by omega)
 have h4:=h.anti a b
 have h5:=h.anti b d
 have h6:=h.trans d b a (by omega) (by omega)
 have h7:=h.anti a d
 omega
theorem Cmp.pull {α β:Type} {c:α→α→Int} (h:Cmp c) (f:β→α):Cmp (fun a b=>c (f a) (f b)):=⟨fun a b=>h.anti _ _,fun a b d=>h.trans _ _ _⟩
theorem Cmp.lex {α:Type} {c c2:α→α→Int} (h:Cmp c) (h2:Cmp c2):Cmp (fun a b=>if c a b=0 then c2 a b else c a b):=by
 refine⟨fun a b=>?_,fun a b d=>?_⟩
 ·have h3:=h.anti a b
  have h4:=h2.anti a b
  show(if c b a=0 then c2 b a else c b a) = - (if c a b=0 then c2 a b else c a b)
  by_cases e:c a b=0
  ·rw[if_pos e,if_pos (by omega)];omega
  ·rw[if_neg e,if_neg (by omega)];omega
 ·show(if c a b=0 then c2 a b else c a b)≤0→(if c b d=0 then c2 b d else c b d)≤0→(if c a d=0 then c2 a d else c a d)≤0
  intro x y
  by_cases e1:c a b=0
  ·rw[if_pos e1] at x
   by_cases e2:c b d=0
   ·rw[if_pos e2] at y
    rw[if_pos (h.eq_trans e1 e2)]
    exact h2.trans a b d x y
   ·rw[if_neg e2] at y
    have:=h.le_lt (a:=a) (b:=b) (d:=d) (by omega) (by omega)
    rw[if_neg (by omega)]
    omega
  ·rw[if_neg e1] at x
   have hle:c b d≤0:=by
    by_cases e2:c b d=0
    ·omega
    ·rw[if_neg e2] at y;omega
   have:=h.lt_le (a:=a) (b:=b) (d:=d) (by omega) hle
   rw[if_neg (by omega)]
   omega
def lexL {α:Type} (c:α→α→Int):List α→List α→Int
 | [],[]=>0
 | [],_::_ => -1
 | _::_,[]=>1
 | a::s,b::t=>if c a b=0 then lexL c s t else c a b
theorem Cmp.lexL {α:Type} {c:α→α→Int} (h:Cmp c):Cmp (PL.lexL c):=by
 refine⟨?_,?_⟩
 ·intro a
  induction a with
  | nil=>intro b;cases b<;>simp[PL.lexL]
  | cons x s ih =>
   intro b
   cases b with
   | nil=>simp[PL.lexL]
   | cons y t =>
    have h3:=h.anti x y
    have h4:=ih t
    simp only[PL.lexL]
    by_cases e:c x y=0
    ·rw[if_pos e,if_pos (by omega)];omega
    ·rw[if_neg e,if_neg (by omega)];omega
 ·intro a
  induction a with
  | nil=>intro b d _ _;cases d<;>simp[PL.lexL]
  | cons x s ih =>
   intro b d
   cases b with
   | nil=>intro h1;simp[PL.lexL] at h1
   | cons y t =>
    cases d with
    | nil=>intro _ h2;simp[PL.lexL] at h2
    | cons z u =>
     simp only[PL.lexL]
     intro p q
     by_cases e1:c x y=0
     ·rw[if_pos e1] at p
      by_cases e2:c y z=0
      ·rw[if_pos e2] at q
       rw[if_pos (h.eq_trans e1 e2)]
       exact ih t u p q
      ·rw[if_neg e2] at q
       have:=h.le_lt (a:=x) (b:=y) (d:=z) (by omega) (by omega)
       rw[if_neg (by omega)]
       omega
     ·rw[if_neg e1] at p
      have hle:c y z≤0:=by
       by_cases e2:c y z=0
       ·omega
       ·rw[if_neg e2] at q;omega
      have:=h.lt_le (a:=x) (b:=y) (d:=z) (by omega) hle
      rw[if_neg (by omega)]
      omega
theorem lexL_zero {α:Type} {c:α→α→Int} (h:∀a b,c a b=0→a=b):∀s t:List α,lexL c s t=0→s=t
 | [],[],_=>rfl
 | [],_::_,h1=>by simp[lexL] at h1
 | _::_,[],h1=>by simp[lexL] at h1
 | a::s,b::t,h1=>by
  simp only[lexL] at h1
  by_cases e:c a b=0
  ·rw[if_pos e] at h1
   rw[h a b e,lexL_zero h s t h1]
  ·rw[if_neg e] at h1
   exact absurd h1 e
theorem cmpI_cmp:Cmp cmpI:=by
 refine⟨fun a b=>?_,fun a b d=>?_⟩
 ·unfold cmpI
  by_cases h1:a<b
  ·rw[if_neg (by omega),if_pos (by omega),if_pos h1];rfl
  ·by_cases h2:a > b
   ·rw[if_pos (by omega),if_neg h1,if_pos h2]
   ·rw[if_neg (by omega),if_neg (by omega),if_neg h1,if_neg h2];rfl
 ·unfold cmpI
  intro h1 h2
  by_cases e1:a<d
  ·rw[if_pos e1];omega
  ·rw[if_neg e1]
   by_cases e2:a > d
   ·exfalso
    by_cases f1:a<b
    ·have f2:¬b<d:=by omega
     rw[if_neg f2,if_pos (by omega)] at h2
     omega
    ·rw[if_neg f1] at h1
     by_cases f3:a > b
     ·rw[if_pos f3] at h1;omega
     ·have f2:¬b<d:=by omega
      rw[if_neg f2,if_pos (by omega)] at h2
      omega
   ·rw[if_neg e2];omega
def cmpU (a b:UInt8):Int:=cmpI (a.toNat:Int) (b.toNat:Int)
theorem cmpU_cmp:Cmp cmpU:=cmpI_cmp.pull (fun b:UInt8=>(b.toNat:Int))
theorem cmpU_zero (a b:UInt8) (h:cmpU a b=0):a=b:=by
 have:=cmpI_zero.mp h
 exact UInt8.toNat_inj.mp (by omega)
theorem cmpB_lex:∀a b:List UInt8,cmpB a b=lexL cmpU a b
 | [],[]=>by simp[cmpB,lexL,Op.bytesLess]
 | [],_::_=>by simp[cmpB,lexL,Op.bytesLess]
 | _::_,[]=>by simp[cmpB,lexL,Op.bytesLess]
 | x::s,y::t=>by
  have ih:=cmpB_lex s t
  simp only[lexL]
  rw[←ih]
  have hL:Op.bytesLess (x::s) (y::t)=(decide (x<y)||(x==y&&Op.bytesLess s t)):=rfl
  unfold cmpB
  rw[hL]
  by_cases h1:x=y
  ·subst h1
   have h0:cmpU x x=0:=cmpU_cmp.self x
   rw[if_pos h0]
   have hx:¬x<x:=UInt8.lt_irrefl x
   simp[hx]
  ·have h0:cmpU x y≠0:=fun h=>h1 (cmpU_zero x y h)
   rw[if_neg h0]
   have hb:(x==y)=false:=beq_eq_false_iff_ne.mpr h1
   have hn:x.toNat≠y.toNat:=fun h=>h1 (UInt8.toNat_inj.mp h)
   rw[hb,Bool.false_and,Bool.or_false]
   by_cases h2:x<y
   ·have h3:x.toNat<y.toNat:=UInt8.lt_iff_toNat_lt.mp h2
    unfold cmpU cmpI
    rw[if_pos (decide_eq_true h2),if_pos (by omega)]
   ·have h3:¬x.toNat<y.toNat:=fun h=>h2 (UInt8.lt_iff_toNat_lt.mpr h)
    unfold cmpU cmpI
    rw[if_neg (by simp[h2]),if_neg (by simp[h1]),if_neg (by omega),if_pos (by omega)]
theorem cmpB_cmp:Cmp cmpB:=by
 have:cmpB=lexL cmpU:=funext fun a=>funext fun b=>cmpB_lex a b
 rw[this]
 exact cmpU_cmp.lexL
theorem cmpB_zero (a b:List UInt8) (h:cmpB a b=0):a=b:=by
 rw[cmpB_lex] at h
 exact lexL_zero cmpU_zero a b h
theorem cmpR_lex:∀a b:List ByteArray,cmpR a b=lexL (fun x y=>cmpB (bts x) (bts y)) a b
 | [],[]=>rfl
 | [],_::_=>rfl
 | _::_,[]=>rfl
 | x::s,y::t=>by
  have ih:=cmpR_lex s t
  simp only[lexL,cmpR]
  rw[←ih]
  unfold ltS cmpB
  by_cases h1:Op.bytesLess (bts x) (bts y)=true
  ·rw[if_pos h1,if_pos h1,if_neg (by omega)]
  ·rw[if_neg h1,if_neg h1]
   by_cases h2:bts x=bts y
   ·rw[if_pos h2,if_pos h2,if_pos rfl]
   ·rw[if_neg h2,if_neg h2,if_neg (by omega)]
theorem cmpR_cmp:Cmp cmpR:=by
 have:cmpR=lexL (fun x y=>cmpB (bts x) (bts y)):=funext fun a=>funext fun b=>cmpR_lex a b
 rw[this]
 exact(cmpB_cmp.pull bts).lexL
theorem cmpR_zero (a b:List ByteArray) (h:cmpR a b=0):a=b:=by
 rw[cmpR_lex] at h
 exact lexL_zero (fun x y e=>bts_inj (cmpB_zero _ _ e)) a b h
theorem cmpN_cmp:Cmp cmpN:=cmpR_cmp.pull (fun s:ByteArray=>(labels s).reverse)
def joinD (c:UInt8):List ByteArray→List UInt8
 | []=>[]
 | [x]=>bts x
 | x::y::t=>bts x++c::joinD c (y::t)
theorem splitC_cons (c:UInt8):∀(l cur:List UInt8),∃x t,splitC c cur l=x::t
 | [],cur=>⟨_,_,rfl⟩
 | b::l,cur=>by
  unfold splitC
  split
  ·exact⟨_,_,rfl⟩
  ·exact splitC_cons c l _
theorem joinD_split (c:UInt8):∀(l cur:List UInt8),joinD c (splitC c cur l)=cur++l
 | [],cur=>by simp[splitC,joinD,ci_]
 | b::l,cur=>by
  unfold splitC
  by_cases h:b=c
  ·rw[if_pos h]
   obtain⟨x,t,e⟩:=splitC_cons c l []
   have:=joinD_split c l []
   rw[e] at this ⊢
   simp only[joinD,ci_]
   rw[this,h]
   simp
  ·rw[if_neg h,joinD_split c l (cur++[b])]
   simp
theorem labels_join (s:ByteArray):joinD 46 (labels s)=bts s:=by
 unfold labels
 split
 ·rename_i h;rw[h];rfl
 ·rw[joinD_split];rfl
theorem labels_inj {a b:ByteArray} (h:labels a=labels b):a=b:=by
 apply bts_inj
 rw[←labels_join a,←labels_join b,h]
theorem cmpN_zero {a b:ByteArray}:cmpN a b=0↔a=b:=by
 constructor
 ·intro h
  have:=cmpR_zero _ _ h
  exact labels_inj (List.reverse_inj.mp this)
 ·intro h
  rw[h]
  exact cmpN_cmp.self b
theorem cmpN_bts {a b:ByteArray}:cmpN a b=0↔bts a=bts b:=cmpN_zero.trans ⟨fun h=>by rw[h],bts_inj⟩
def cmpK (a b:aa_):Int:=if cmpN a.f0 b.f0=0 then cmpI a.f1 b.f1 else cmpN a.f0 b.f0
theorem cmpK_cmp:Cmp cmpK:=(cmpN_cmp.pull (fun r:aa_=>r.f0)).lex (cmpI_cmp.pull (fun r:aa_=>r.f1))
theorem cmpK_zero {a b:aa_}:cmpK a b=0↔bts a.f0=bts b.f0∧a.f1=b.f1:=by
 unfold cmpK
 by_cases h:cmpN a.f0 b.f0=0
 ·rw[if_pos h,cmpI_zero]
  exact⟨fun h2=>⟨cmpN_bts.mp h,h2⟩,fun h2=>h2.2⟩
 ·rw[if_neg h]
  exact⟨fun h2=>absurd h2 h,fun h2=>absurd (cmpN_bts.mpr h2.1) h⟩
theorem cmpRec_lex (a b:aa_):cmpRec a b=if cmpK a b=0 then(if cmpB (bts (dataB a.f1 a.f3)) (bts (dataB b.f1 b.f3))=0 then cmpI a.f2 b.f2 else cmpB (bts (dataB a.f1 a.f3)) (bts (dataB b.f1 b.f3))) else cmpK a b:=by
 unfold cmpRec cmpK
 by_cases hn:cmpN a.f0 b.f0=0
 ·rw[if_pos hn,if_pos hn]
  by_cases ht:a.f1=b.f1
  ·rw[if_pos ht,if_pos (cmpI_zero.mpr ht)]
   unfold cmpB
   by_cases hd:bts (dataB a.f1 a.f3)=bts (dataB b.f1 b.f3)
   ·rw[if_pos hd,hd,bytesLess_irr]
    simp
   ·rw[if_neg hd]
    by_cases hl:Op.bytesLess (bts (dataB a.f1 a.f3)) (bts (dataB b.f1 b.f3))=true
    ·simp[hl,hd]
    ·simp[hl,hd]
  ·rw[if_neg ht,if_neg (fun h=>ht (cmpI_zero.mp h))]
   unfold cmpI
   by_cases hl:a.f1<b.f1
   ·simp[hl]
   ·have:a.f1 > b.f1:=by omega
    simp[hl,this]
 ·rw[if_neg hn,if_neg hn,if_neg hn]
theorem cmpRec_cmp:Cmp cmpRec:=by
 have:cmpRec=fun a b=>if cmpK a b=0 then(if cmpB (bts (dataB a.f1 a.f3)) (bts (dataB b.f1 b.f3))=0 then cmpI a.f2 b.f2 else cmpB (bts (dataB a.f1 a.f3)) (bts (dataB b.f1 b.f3))) else cmpK a b:=funext fun a=>funext fun b=>cmpRec_lex a b
 rw[this]
 exact cmpK_cmp.lex ((cmpB_cmp.pull (fun r:aa_=>bts (dataB r.f1 r.f3))).lex (cmpI_cmp.pull (fun r:aa_=>r.f2)))
theorem cmpRec_key {a b:aa_} (h:cmpRec a b≤0):cmpK a b≤0:=by
 rw[cmpRec_lex] at h
 by_cases e:cmpK a b=0
 ·omega
 ·rw[if_neg e] at h;exact h
theorem riseFrom_all:∀(l:List aa_) (a:aa_),riseFrom a l=true→(∀x∈l,cmpRec a x<0)∧l.Pairwise (fun x y=>cmpRec x y<0)∧∀x∈l,okR x=true
 | [],a,_=>by simp
 | b::t,a,h=>by
  simp only[riseFrom,Bool.and_eq_true,decide_eq_true_eq] at h
  obtain⟨⟨h1,h2⟩,h3⟩:=h
  obtain⟨i1,i2,i3⟩:=riseFrom_all t b h3
  refine⟨?_,List.pairwise_cons.mpr ⟨i1,i2⟩,?_⟩
  ·intro x hx
   rcases List.mem_cons.mp hx with rfl|hx
   ·exact h2
   ·exact cmpRec_cmp.lt_trans h2 (i1 x hx)
  ·intro x hx
   rcases List.mem_cons.mp hx with rfl|hx
   ·exact h1
   ·exact i3 x hx
theorem rises_all {l:List aa_} (h:rises l=true):l.Pairwise (fun x y=>cmpRec x y<0)∧∀x∈l,okR x=true:=by
 cases l with
 | nil=>simp
 | cons a t =>
  simp only[rises,Bool.and_eq_true] at h
  obtain⟨i1,i2,i3⟩:=riseFrom_all t a h.2
  refine⟨List.pairwise_cons.mpr ⟨i1,i2⟩,?_⟩
  intro x hx
  rcases List.mem_cons.mp hx with rfl|hx
  ·exact h.1
  ·exact i3 x hx
theorem numOf_inj {l m:List UInt8} {a:Int} (h1:numOk l a=true) (h2:numOk m a=true) (e:numOf l=numOf m):l=m:=by
 obtain⟨a1,a2,_⟩:=numOk_len h1
 obtain⟨b1,b2,_⟩:=numOk_len h2
 unfold numOf at e
 rw[if_pos ⟨a2,a1⟩,if_pos ⟨b2,b1⟩] at e
 rw[←dec_valF l a2,←dec_valF m b2,show valF 0 l=valF 0 m by omega]
theorem numOk_range {l:List UInt8} {a:Int} (h:numOk l a=true):0≤numOf l∧numOf l≤a:=by
 unfold numOk at h
 simpa using h
theorem byte_inj {a b:Int} (ha:0≤a) (ha':a<256) (hb:0≤b) (hb':b<256) (h:UInt8.ofNat a.toNat=UInt8.ofNat b.toNat):a=b:=by
 have h1:=congrArg UInt8.toNat h
 simp only[UInt8.toNat_ofNat'] at h1
 omega
theorem byt1_bts (n:Int):bts (byt1 n)=[UInt8.ofNat (n % 256).toNat]:=rfl
theorem byt2_bts (n:Int):bts (byt2 n)=[UInt8.ofNat (n / 256 % 256).toNat,UInt8.ofNat (n % 256).toNat]:=rfl
theorem byt4_bts (n:Int):bts (byt4 n)=[UInt8.ofNat (n / 16777216 % 256).toNat,UInt8.ofNat (n / 65536 % 256).toNat,UInt8.ofNat (n / 256 % 256).toNat,UInt8.ofNat (n % 256).toNat]:=rfl
theorem bts_app (a b:ByteArray):bts (a++b)=bts a++bts b:=by
 unfold bts
 rw[ByteArray.data_append,Array.toList_append]
theorem byt1_inj {a b:Int} (ha:0≤a) (ha':a<256) (hb:0≤b) (hb':b<256) (h:bts (byt1 a)=bts (byt1 b)):a=b:=by
 rw[byt1_bts,byt1_bts] at h
 have h1:=(List.cons.inj h).1
 have:=byte_inj (by omega) (by omega) (by omega) (by omega) h1
 omega
theorem byt2_inj {a b:Int} (ha:0≤a) (ha':a<65536) (hb:0≤b) (hb':b<65536) (h:bts (byt2 a)=bts (byt2 b)):a=b:=by
 rw[byt2_bts,byt2_bts] at h
 obtain⟨h1,h2⟩:=List.cons.inj h
 have h2:=(List.cons.inj h2).1
 have e1:=byte_inj (by omega) (by omega) (by omega) (by omega) h1
 have e2:=byte_inj (by omega) (by omega) (by omega) (by omega) h2
 omega
theorem byt4_inj {a b:Int} (ha:0≤a) (ha':a<4294967296) (hb:0≤b) (hb':b<4294967296) (h:bts (byt4 a)=bts (byt4 b)):a=b:=by
 rw[byt4_bts,byt4_bts] at h
 obtain⟨h1,h⟩:=List.cons.inj h
 obtain⟨h2,h⟩:=List.cons.inj h
 obtain⟨h3,h⟩:=List.cons.inj h
 have h4:=(List.cons.inj h).1
 have e1:=byte_inj (by omega) (by omega) (by omega) (by omega) h1
 have e2:=byte_inj (by omega) (by omega) (by omega) (by omega) h2
 have e3:=byte_inj (by omega) (by omega) (by omega) (by omega) h3
 have e4:=byte_inj (by omega) (by omega) (by omega) (by omega) h4
 omega
theorem foldB {α:Type} (f:α→ByteArray):∀(l:List α) (a:ByteArray),bts (l.foldl (fun a x=>a++f x) a)=bts a++l.flatMap (fun x=>bts (f x))
 | [],a=>by simp
 | x::t,a=>by rw[List.foldl_cons,foldB f t,bts_app,List.flatMap_cons,List.append_assoc]
theorem aB_inj {s t:ByteArray} (hs:aOk s=true) (ht:aOk t=true) (h:bts (aB s)=bts (aB t)):bts s=bts t:=by
 unfold aOk at hs ht
 simp only[Bool.and_eq_true,decide_eq_true_eq,List.all_eq_true] at hs ht
 unfold aB at h
 rw[foldB (fun x=>byt1 (numOf (bts x))),foldB (fun x=>byt1 (numOf (bts x)))] at h
 simp only[ci_,List.nil_append,show(⟨#[]⟩:ByteArray)=⟨([]:List UInt8).toArray⟩ from rfl] at h
 have key:∀(l m:List ByteArray),l.length=m.length→(∀x∈l,numOk (bts x) 255=true)→(∀x∈m,numOk (bts x) 255=true)→l.flatMap (fun x=>bts (byt1 (numOf (bts x))))=m.flatMap (fun x=>bts (byt1 (numOf (bts x))))→l=m:=by
  intro l
  induction l with
  | nil=>intro m hl _ _ _;exact(List.eq_nil_of_length_eq_zero hl.symm).symm
  | cons x l ih =>
   intro m hl h1 h2 e
   cases m with
   | nil=>simp at hl
   | cons y m =>
    rw[List.flatMap_cons,List.flatMap_cons,byt1_bts,byt1_bts] at e
    obtain⟨e1,e2⟩:=List.cons.inj e
    have r1:=numOk_range (h1 x (by simp))
    have r2:=numOk_range (h2 y (by simp))
    have e3:=byt1_inj r1.1 (by omega) r2.1 (by omega) (by rw[byt1_bts,byt1_bts,e1])
    have e4:=bts_inj (numOf_inj (h1 x (by simp)) (h2 y (by simp)) e3)
    rw[e4,ih m (by simpa using hl) (fun z hz=>h1 z (by simp[hz])) (fun z hz=>h2 z (by simp[hz])) e2]
 have e:=key _ _ (hs.2.trans ht.2.symm) hs.1 ht.1 h
 have j1:=joinD_split 46 (bts s) []
 have j2:=joinD_split 46 (bts t) []
 unfold partsA at e
 rw[e,j2] at j1
 simpa using j1.symm
theorem wire_bts (s:ByteArray):bts (wireB s)=(labels s).flatMap (fun x=>UInt8.ofNat ((x.size:Int) % 256).toNat::bts x):=by
 unfold wireB
 rw[foldB (fun x:ByteArray=>strOfNums [(x.size:Int) % 256]++x)]
 simp only[bts_app,show(⟨#[]⟩:ByteArray)=⟨([]:List UInt8).toArray⟩ from rfl,ci_,List.nil_append]
 rfl
theorem wire_key:∀(l m:List ByteArray),(∀x∈l,x.size≤60)→(∀x∈m,x.size≤60)→l.flatMap (fun x=>UInt8.ofNat ((x.size:Int) % 256).toNat::bts x)=m.flatMap (fun x=>UInt8.ofNat ((x.size:Int) % 256).toNat::bts x)→l=m
 | [],[],_,_,_=>rfl
 | [],y::m,_,_,e=>by simp at e
 | x::l,[],_,_,e=>by simp at e
 | x::l,y::m,h1,h2,e=>by
  rw[List.flatMap_cons,List.flatMap_cons,List.cons_append,List.cons_append] at e
  obtain⟨e1,e2⟩:=List.cons.inj e
  have s1:=h1 x (by simp)
  have s2:=h2 y (by simp)
  have e3:=byte_inj (by omega) (by omega) (by omega) (by omega) e1
  have z1:=bq_ x
  have z2:=bq_ y
  obtain⟨e4,e5⟩:=List.append_inj e2 (by omega)
  rw[bts_inj e4,wire_key l m (fun z hz=>h1 z (by simp[hz])) (fun z hz=>h2 z (by simp[hz])) e5]
theorem wireB_inj {s t:ByteArray} (hs:targetOk s=true) (ht:targetOk t=true) (h:bts (wireB s)=bts (wireB t)):bts s=bts t:=by
 rw[wire_bts,wire_bts] at h
 have:=wire_key _ _ (nameOk_small (target_name hs)).2.2 (nameOk_small (target_name ht)).2.2 h
 rw[labels_inj this]
theorem mxB_inj {s t:ByteArray} (hs:mxOk s=true) (ht:mxOk t=true) (h:bts (mxB s)=bts (mxB t)):bts s=bts t:=by
 unfold mxOk at hs ht
 unfold mxB at h
 cases c1:cutB 32 (bts s) with
 | none=>rw[c1] at hs;cases hs
 | some pq =>
  cases c2:cutB 32 (bts t) with
  | none=>rw[c2] at ht;cases ht
  | some pq' =>
   obtain⟨p,q⟩:=pq
   obtain⟨p',q'⟩:=pq'
   rw[c1] at hs h
   rw[c2] at ht h
   simp only[Bool.and_eq_true] at hs ht h
   rw[bts_app,bts_app,bts_app,bts_app] at h
   obtain⟨e1,e2⟩:=List.append_inj h rfl
   have r1:=numOk_range hs.1
   have r2:=numOk_range ht.1
   have e3:=byt2_inj r1.1 (by omega) r2.1 (by omega) e1
   have e4:=numOf_inj hs.1 ht.1 e3
   have e5:=List.append_cancel_right e2
   have e6:=wireB_inj hs.2 ht.2 e5
   rw[ci_,ci_] at e6
   rw[(cutB_some c1).1,(cutB_some c2).1,e4,e6]
theorem dataB_inj {kind:Int} {s t:ByteArray} (hs:dataOk kind s=true) (ht:dataOk kind t=true) (h:bts (dataB kind s)=bts (dataB kind t)):bts s=bts t:=by
 unfold dataOk at hs ht
 unfold dataB at h
 by_cases c1:kind=1
 ·rw[if_pos c1] at hs ht
  rw[if_pos c1,if_pos c1] at h
  exact aB_inj hs ht h
 ·rw[if_neg c1] at hs ht
  rw[if_neg c1,if_neg c1] at h
  by_cases c2:kind=2∨kind=5
  ·rw[if_pos c2] at hs ht
   rw[if_pos c2,if_pos c2,bts_app,bts_app] at h
   exact wireB_inj hs ht (List.append_cancel_right h)
  ·rw[if_neg c2] at hs ht
   rw[if_neg c2,if_neg c2] at h
   by_cases c3:kind=6
   ·rw[if_pos c3] at hs ht
    rw[if_pos c3,if_pos c3] at h
    have r1:=numOk_range hs
    have r2:=numOk_range ht
    exact numOf_inj hs ht (byt4_inj r1.1 (by omega) r2.1 (by omega) h)
   ·rw[if_neg c3] at hs ht
    rw[if_neg c3,if_neg c3] at h
    by_cases c4:kind=15
    ·rw[if_pos c4] at hs ht
     rw[if_pos c4,if_pos c4] at h
     exact mxB_inj hs ht h
    ·rw[if_neg c4] at hs ht
     rw[if_neg c4,if_neg c4] at h
     by_cases c5:kind=16
     ·rw[if_pos c5,if_pos c5,bts_app,bts_app] at h
      exact(List.append_inj h rfl).2
     ·rw[if_neg c5] at hs
      cases hs
theorem cmpRec_zero {a b:aa_} (ha:okR a=true) (hb:okR b=true) (h:cmpRec a b=0):a=b:=by
 rw[cmpRec_lex] at h
 by_cases h1:cmpK a b=0
 ·rw[if_pos h1] at h
  obtain⟨e0,e1⟩:=cmpK_zero.mp h1
  by_cases h2:cmpB (bts (dataB a.f1 a.f3)) (bts (dataB b.f1 b.f3))=0
  ·rw[if_pos h2] at h
   have e2:=cmpI_zero.mp h
   have e3:=cmpB_zero _ _ h2
   have d1:=okR_data ha
   have d2:=okR_data hb
   rw[←e1] at d2 e3
   have e4:=dataB_inj d1 d2 e3
   obtain⟨a0,a1,a2,a3⟩:=a
   obtain⟨b0,b1,b2,b3⟩:=b
   simp only at e0 e1 e2 e4
   rw[bts_inj e0,e1,e2,bts_inj e4]
  ·rw[if_neg h2] at h
   exact absurd h h2
 ·rw[if_neg h1] at h
  exact absurd h h1
theorem cmpRec_self (a:aa_):cmpRec a a=0:=cmpRec_cmp.self a
def goodL (l:List aa_):Prop:=l.Pairwise (fun x y=>cmpRec x y<0)∧∀x∈l,okR x=true∧szR x
def putR (r:aa_):List aa_→List aa_
 | []=>[r]
 | x::t=>if cmpRec x r<0 then x::putR r t else if cmpRec x r=0 then x::t else r::x::t
theorem eqR_eq {x y:aa_} (h:eqR x y=true):x=y:=by
 simp only[eqR,Bool.and_eq_true,decide_eq_true_eq] at h
 obtain⟨⟨⟨h1,h2⟩,h3⟩,h4⟩:=h
 cases x;cases y
 simp only at h1 h2 h3 h4
 have e1:=bts_inj h1
 have e4:=bts_inj h4
 subst e1 h2 h3 e4
 rfl
theorem eqR_cmp {x y:aa_} (hx:okR x=true) (hy:okR y=true):eqR x y=true↔cmpRec x y=0:=by
 constructor
 ·intro h
  rw[eqR_eq h]
  exact cmpRec_self y
 ·intro h
  rw[cmpRec_zero hx hy h]
  simp[eqR]
theorem putR_len (r:aa_):∀l,(putR r l).length≤l.length+1
 | []=>by simp[putR]
 | x::t=>by
  have:=putR_len r t
  rw[putR]
  split
  ·simp only[List.length_cons];omega
  ·split<;>simp
theorem putR_mem (r:aa_):∀l,∀x∈putR r l,x=r∨x∈l
 | [],x,h=>by
  rw[putR] at h
  exact Or.inl (by simpa using h)
 | y::t,x,h=>by
  rw[putR] at h
  split at h
  ·rcases List.mem_cons.1 h with rfl|h
   ·exact Or.inr (by simp)
   ·rcases putR_mem r t x h with h|h
    ·exact Or.inl h
    ·exact Or.inr (by simp[h])
  ·split at h
   ·exact Or.inr h
   ·rcases List.mem_cons.1 h with rfl|h
    ·exact Or.inl rfl
    ·exact Or.inr h
theorem putR_sorted (r:aa_):∀l:List aa_,l.Pairwise (fun x y=>cmpRec x y<0)→(putR r l).Pairwise (fun x y=>cmpRec x y<0)
 | [],_=>by simp[putR]
 | x::t,h=>by
  obtain⟨h1,h2⟩:=List.pairwise_cons.1 h
  rw[putR]
  by_cases c:cmpRec x r<0
  ·rw[if_pos c]
   refine List.pairwise_cons.2 ⟨fun y hy=>?_,putR_sorted r t h2⟩
   rcases putR_mem r t y hy with rfl|hy
   ·exact c
   ·exact h1 y hy
  ·rw[if_neg c]
   by_cases c0:cmpRec x r=0
   ·rw[if_pos c0];exact h
   ·rw[if_neg c0]
    have hrx:cmpRec r x<0:=by
     have:=cmpRec_cmp.anti x r
     omega
    refine List.pairwise_cons.2 ⟨fun y hy=>?_,h⟩
    rcases List.mem_cons.1 hy with rfl|hy
    ·exact hrx
    ·exact cmpRec_cmp.lt_trans hrx (h1 y hy)
theorem putR_good {r:aa_} {l:List aa_} (hr:okR r=true∧szR r) (h:goodL l):goodL (putR r l) :=
 ⟨putR_sorted r l h.1,fun x hx=>by
  rcases putR_mem r l x hx with rfl|hx
  ·exact hr
  ·exact h.2 x hx⟩
theorem putR_at (r:aa_):∀(l:List aa_) (i:Nat),i≤l.length→(∀j x,j<i→l[j]? = some x→cmpRec x r<0)→(∀x,l[i]? = some x→¬cmpRec x r<0) →
  putR r l=(if (match l[i]? with|some x=>decide (cmpRec x r=0)|none=>false)=true then l else l.take i++r::l.drop i)
 | [],i,h,_,_=>by
  obtain rfl:i=0:=by simpa using h
  rfl
 | x::t,0,h,_,h2=>by
  have:=h2 x rfl
  rw[putR,if_neg this]
  simp
 | x::t,i+1,h,h1,h2=>by
  have:=h1 0 x (by omega) rfl
  rw[putR,if_pos this,putR_at r t i (by simpa using h) (fun j y hj hy=>h1 (j+1) y (by omega) (by simpa using hy)) (fun y hy=>h2 y (by simpa using hy))]
  simp only[List.getElem?_cons_succ,List.take_succ_cons,List.drop_succ_cons,List.cons_append]
  cases t[i]? with
  | none=>rfl
  | some y =>
   simp only
   split<;>rfl
theorem specPut_eq (l:List aa_) (r:aa_) (hl:l.length≤1048576) (h:goodL l) (hr:okR r=true∧szR r):Ev (fun k=>a3_.f k l r.f0 r.f1 r.f2 r.f3) (putR r l):=by
 unfold a3_.f
 refine Ev.eq_ (a4_ l (fun k (_:Unit) i=>a3_.l0 k l i r.f0 r.f1 r.f2 r.f3) (fun _ _=>putR r l) (fun p _=>∀x∈p,cmpRec x r<0) ?_ ?_ () (by simp)) rfl
 ·intro _ hp
  have hput:=putR_at r l l.length (Nat.le_refl _) (fun j x _ hx=>hp x (List.mem_of_getElem? hx)) (fun x hx=>by rw[List.getElem?_eq_none (Nat.le_refl _)] at hx;cases hx)
  rw[List.getElem?_eq_none (Nat.le_refl _),if_neg (by simp),List.take_length,List.drop_length] at hput
  apply Ev.succ
  simp only[a3_.l0,Int.toNat_natCast,List.take_length,List.drop_length]
  refine Ev.neg (by omega) (Ev.pos (by omega) (Ev.pos (by omega) (Ev.cbind l rfl (Ev.pos (by simp;omega) (Ev.cbind l rfl (Ev.pos (by omega) (Ev.cbind _ rfl (Ev.cbind [] rfl (Ev.pos (by simp;omega) (Ev.const ?_))))))))))
  rw[hput,List.append_nil]
 ·intro p x t _ e hp ih
  have hm:=bc_ e
  have hx:=h.2 x (b5_ e)
  have hget:l[p.length]? = some x:=by rw[e];simp
  apply Ev.succ
  simp only[a3_.l0,a_,bt_ e,eqR_spec]
  refine Ev.pos hm.1 (Ev.pos (by omega) (Ev.bind' _ (specCmpRec_eq x r hx.2 hr.2 hx.1 hr.1) ?_))
  rw[w64 (i:=(p.length:Int)+1) (by omega) (by omega)]
  by_cases c:cmpRec x r<0
  ·refine Ev.pos c (ih () (fun y hy=>?_))
   rcases List.mem_append.1 hy with hy|hy
   ·exact hp y hy
   ·obtain rfl:y=x:=by simpa using hy
    exact c
  ·have hput:=putR_at r l p.length (by omega) (fun j y hj hy=>hp y (by
    rw[e,List.getElem?_append_left hj] at hy
    exact List.mem_of_getElem? hy)) (fun y hy=>by rw[hget] at hy;obtain rfl:=Option.some.inj hy;exact c)
   rw[hget] at hput
   refine Ev.neg c ?_
   by_cases c0:cmpRec x r=0
   ·rw[(eqR_cmp hx.1 hr.1).2 c0]
    rw[if_pos (by simp[c0])] at hput
    exact Ev.aK_ (Ev.const (by rw[hput]))
   ·have he:eqR x r=false:=by
     cases hb:eqR x r with
     | false=>rfl
     | true=>exact absurd ((eqR_cmp hx.1 hr.1).1 hb) c0
    rw[he]
    rw[if_neg (by simp[c0])] at hput
    have ht:(l.take p.length).length=p.length:=by rw[List.length_take];omega
    have hd:(l.drop p.length).length=l.length - p.length:=List.length_drop
    rw[Int.toNat_natCast]
    refine Ev.aG_ (Ev.pos (by omega) (Ev.cbind (l.take p.length) rfl (Ev.pos (by simp;omega) (Ev.cbind (l.take p.length) rfl (Ev.pos (by omega) (Ev.cbind _ rfl (Ev.cbind (l.drop p.length) rfl (Ev.pos (by simp;omega) (Ev.const ?_)))))))))
    rw[hput]
    simp
theorem bin_eq (l:List aa_) (r:aa_) (hl:l.length≤1048576) (h:goodL l) (hr:okR r=true∧szR r):∃(i:Nat) (o:Bool),Ev (fun k=>ac_.f k l r.f0 r.f1 r.f2 r.f3) ((i:Int),o)∧i≤l.length∧putR r l=if o=true then l else l.take i++r::l.drop i:=by
 have hsort:∀(i j:Nat) (x y:aa_),i<j→l[i]? = some x→l[j]? = some y→cmpRec x y<0:=fun i j x y hij hx hy=>by
  obtain⟨hi,rfl⟩:=List.getElem?_eq_some_iff.1 hx
  obtain⟨hj,rfl⟩:=List.getElem?_eq_some_iff.1 hy
  exact List.pairwise_iff_getElem.1 h.1 i j hi hj hij
 have main:∀(m lo hi:Nat),hi - lo≤m→lo≤hi→hi≤l.length→(∀j x,j<lo→l[j]? = some x→cmpRec x r<0)→(∀x,l[hi]? = some x→¬cmpRec x r<0) →
   ∃(i:Nat) (o:Bool),Ev (fun k=>ac_.l0 k l (l.length:Int) (lo:Int) (hi:Int) r.f0 r.f1 r.f2 r.f3) ((i:Int),o)∧i≤l.length∧putR r l=if o=true then l else l.take i++r::l.drop i:=by
  intro m
  induction m with
  | zero =>
   intro lo hi hm hlh hhl h1 h2
   obtain rfl:lo=hi:=by omega
   have hput:=putR_at r l lo hhl h1 h2
   by_cases hlt:lo<l.length
   ·have hg:=List.getElem?_eq_getElem hlt
    have hx:=h.2 _ (List.getElem_mem hlt)
    generalize l[lo]=x at hg hx
    rw[hg] at hput
    refine⟨lo,(cmpRec x r==0),Ev.succ ?_,hhl,?_⟩
    ·simp only[ac_.l0,a_,Int.toNat_natCast]
     rw[show l.getD lo cM_=x from by rw[List.getD_eq_getElem?_getD,hg];rfl]
     exact Ev.neg (by omega) (Ev.pos (by omega) (Ev.pos (by omega) (Ev.pos (by omega) (Ev.bind' _ (implCmpRec_eq x r hx.2 hr.2 hx.1 hr.1) (Ev.const rfl)))))
    ·rw[hput]
     by_cases c0:cmpRec x r=0<;>simp[c0]
   ·rw[List.getElem?_eq_none (by omega),if_neg (by simp)] at hput
    refine⟨lo,false,Ev.succ ?_,hhl,by rw[hput];simp⟩
    simp only[ac_.l0]
    exact Ev.neg (by omega) (Ev.neg (by omega) (Ev.const rfl))
  | succ m ih =>
   intro lo hi hm hlh hhl h1 h2
   by_cases hlt:lo<hi
   ·have hmid:wrap64 ((IntKind.u64.wrap (wrap64 ((lo:Int)+(hi:Int)))) / 2)=(((lo+hi) / 2:Nat):Int):=by
     rw[w64 (i:=(lo:Int)+(hi:Int)) (by omega) (by omega)]
     have e:IntKind.u64.wrap ((lo:Int)+(hi:Int))=(lo:Int)+(hi:Int):=by
      simp only[IntKind.wrap,IntKind.signed,IntKind.bits]
      first|omega|(simp;omega)
     rw[e,w64 (by omega) (by omega)]
     omega
    have hq:(lo+hi) / 2<hi:=by omega
    have hq0:lo≤(lo+hi) / 2:=by omega
    generalize (lo+hi) / 2=q at hmid hq hq0
    have hql:q<l.length:=by omega
    have hg:=List.getElem?_eq_getElem hql
    have hx:=h.2 _ (List.getElem_mem hql)
    generalize l[q]=x at hg hx
    have hrd:l.getD q cM_=x:=by rw[List.getD_eq_getElem?_getD,hg];rfl
    by_cases c:cmpRec x r<0
    ·obtain⟨i,o,a1,a2,a3⟩:=ih (q+1) hi (by omega) (by omega) hhl (fun j y hj hy=>by
      rcases Nat.lt_or_ge j q with hjq|hjq
      ·exact cmpRec_cmp.lt_trans (hsort j q y x hjq hy hg) c
      ·obtain rfl:j=q:=by omega
       rw[hg] at hy
       obtain rfl:=Option.some.inj hy
       exact c) h2
     refine⟨i,o,Ev.succ ?_,a2,a3⟩
     simp only[ac_.l0,a_,hmid,Int.toNat_natCast,hrd]
     refine Ev.pos (by omega) (Ev.pos (by omega) (Ev.pos (by omega) (Ev.bind' _ (implCmpRec_eq x r hx.2 hr.2 hx.1 hr.1) (Ev.pos c ?_))))
     rw[w64 (by omega) (by omega)]
     exact a1
    ·obtain⟨i,o,a1,a2,a3⟩:=ih lo q (by omega) hq0 (by omega) h1 (fun y hy=>by rw[hg] at hy;obtain rfl:=Option.some.inj hy;exact c)
     refine⟨i,o,Ev.succ ?_,a2,a3⟩
     simp only[ac_.l0,a_,hmid,Int.toNat_natCast,hrd]
     exact Ev.pos (by omega) (Ev.pos (by omega) (Ev.pos (by omega) (Ev.bind' _ (implCmpRec_eq x r hx.2 hr.2 hx.1 hr.1) (Ev.neg c a1))))
   ·exact ih lo hi (by omega) hlh hhl h1 h2
 unfold ac_.f
 exact main l.length 0 l.length (by omega) (by omega) (Nat.le_refl _) (fun j x hj=>by omega) (fun x hx=>by rw[List.getElem?_eq_none (Nat.le_refl _)] at hx;cases hx)
theorem implPut_eq (l:List aa_) (r:aa_) (hl:l.length≤1048576) (h:goodL l) (hr:okR r=true∧szR r):Ev (fun k=>impl_put.f k l r.f0 r.f1 r.f2 r.f3) (putR r l):=by
 obtain⟨i,o,h1,h2,h3⟩:=bin_eq l r hl h hr
 unfold impl_put.f
 refine Ev.bind' _ h1 ?_
 cases o with
 | true =>
  rw[if_pos rfl] at h3
  exact Ev.aK_ (Ev.const (by rw[h3]))
 | false =>
  rw[if_neg (by simp)] at h3
  refine Ev.aG_ (Ev.pos ⟨by omega,by omega,by omega⟩ (Ev.const ?_))
  rw[h3,Int.toNat_natCast]
def lessR (l ex:List aa_):List aa_:=l.filter (fun r => !hasR ex r)
theorem implWithout_eq (l ex:List aa_) (hl:l.length≤1048576) (he:ex.length≤1048576):Ev (fun k=>bu_.f k l ex) (lessR l ex):=by
 unfold bu_.f
 refine Ev.eq_ (a4_ l (fun k s i=>bu_.l0 k ex s l (l.length:Int) i) (fun s t=>s++lessR t ex) (fun p s=>s.length≤p.length) ?_ ?_ [] (by simp)) (by simp)
 ·intro s hs
  apply Ev.succ
  simp only[bu_.l0]
  exact Ev.neg (by omega) (Ev.const (by simp[lessR]))
 ·intro p x t s e hs ih
  have hm:=bc_ e
  apply Ev.succ
  simp only[bu_.l0,a_,bt_ e]
  refine Ev.pos hm.1 (Ev.pos (by omega) (Ev.pos hm.1 (Ev.bind' _ (contains_eq ex x he) ?_)))
  rw[w64 (i:=(p.length:Int)+1) (by omega) (by omega)]
  cases hx:hasR ex x with
  | true=>exact Ev.aK_ (Ev.eq_ (ih s (by simp;omega)) (by simp[lessR,hx]))
  | false=>exact Ev.aG_ (Ev.pos (by omega) (Ev.eq_ (ih (s++[x]) (by simp;omega)) (by simp[lessR,hx])))
theorem specLess_eq (l ex:List aa_) (hl:l.length≤1048576) (he:ex.length≤1048576):Ev (fun k=>b0_.f k l ex) (lessR l ex):=by
 unfold b0_.f
 refine Ev.eq_ (a4_ l (fun k s i=>b0_.l0 k ex s l (l.length:Int) i) (fun s t=>s++lessR t ex) (fun p s=>s.length≤p.length) ?_ ?_ [] (by simp)) (by simp)
 ·intro s hs
  apply Ev.succ
  simp only[b0_.l0]
  exact Ev.neg (by omega) (Ev.const (by simp[lessR]))
 ·intro p x t s e hs ih
  have hm:=bc_ e
  apply Ev.succ
  simp only[b0_.l0,a_,bt_ e]
  refine Ev.pos hm.1 (Ev.pos (by omega) (Ev.pos hm.1 (Ev.bind' _ (specHas_eq ex x he) ?_)))
  rw[w64 (i:=(p.length:Int)+1) (by omega) (by omega)]
  cases hx:hasR ex x with
  | true=>exact Ev.aK_ (Ev.eq_ (ih s (by simp;omega)) (by simp[lessR,hx]))
  | false=>exact Ev.aG_ (Ev.pos (by omega) (Ev.eq_ (ih (s++[x]) (by simp;omega)) (by simp[lessR,hx])))
theorem lessR_good {l:List aa_} (ex:List aa_) (h:goodL l):goodL (lessR l ex):=⟨h.1.filter _,fun x hx=>h.2 x (List.mem_filter.1 hx).1⟩
theorem lessR_len (l ex:List aa_):(lessR l ex).length≤l.length:=List.length_filter_le _ _
def bothR (a b:List aa_):List aa_:=b.foldl (fun s r=>putR r s) a
theorem bothR_len:∀(b a:List aa_),(bothR a b).length≤a.length+b.length
 | [],a=>by simp[bothR]
 | r::b,a=>by
  have h1:=bothR_len b (putR r a)
  have h2:=putR_len r a
  unfold bothR at h1 ⊢
  simp only[List.foldl_cons,List.length_cons]
  omega
theorem bothR_good:∀(b a:List aa_),goodL a→(∀x∈b,okR x=true∧szR x)→goodL (bothR a b)
 | [],a,h,_=>h
 | r::b,a,h,hb=>bothR_good b (putR r a) (putR_good (hb r (by simp)) h) (fun x hx=>hb x (by simp[hx]))
theorem cloneR2_eq (l:List aa_) (h:l.length≤1048576):aH_.f l=some l:=by
 unfold aH_.f
 simp only[Option.bind_some,List.length_nil,List.nil_append]
 rw[if_pos (by omega)]
theorem implBoth_eq (a b:List aa_) (ha:a.length≤1000) (hb:b.length≤1000) (ga:goodL a) (gb:goodL b):Ev (fun k=>cl_.f k a b) (bothR a b):=by
 unfold cl_.f
 refine Ev.cbind a (cloneR2_eq a (by omega)) ?_
 refine Ev.eq_ (a4_ b (fun k s i=>cl_.l0 k s b (b.length:Int) i) (fun s t=>bothR s t) (fun p s=>s.length≤1000+p.length∧goodL s) ?_ ?_ a ⟨by simpa using ha,ga⟩) rfl
 ·intro s hs
  apply Ev.succ
  simp only[cl_.l0]
  exact Ev.neg (by omega) (Ev.const rfl)
 ·rintro p x t s e ⟨h1,h2⟩ ih
  have hm:=bc_ e
  have hx:=gb.2 x (b5_ e)
  have hl:=putR_len x s
  apply Ev.succ
  simp only[cl_.l0,a_,bt_ e]
  refine Ev.pos hm.1 (Ev.pos (by omega) (Ev.pos hm.1 (Ev.bind' _ (implPut_eq s x (by omega) h2 hx) ?_)))
  rw[w64 (by omega) (by omega)]
  exact ih (putR x s) ⟨by simp;omega,putR_good hx h2⟩
theorem specAnd_eq (a b:List aa_) (ha:a.length≤1000) (hb:b.length≤1000) (ga:goodL a) (gb:goodL b):Ev (fun k=>b7_.f k a b) (bothR a b):=by
 unfold b7_.f
 refine Ev.cbind [] rfl (Ev.pos (by simp;omega) ?_)
 rw[List.nil_append]
 refine Ev.eq_ (a4_ b (fun k s i=>b7_.l0 k s b (b.length:Int) i) (fun s t=>bothR s t) (fun p s=>s.length≤1000+p.length∧goodL s) ?_ ?_ a ⟨by simpa using ha,ga⟩) rfl
 ·intro s hs
  apply Ev.succ
  simp only[b7_.l0]
  exact Ev.neg (by omega) (Ev.const rfl)
 ·rintro p x t s e ⟨h1,h2⟩ ih
  have hm:=bc_ e
  have hx:=gb.2 x (b5_ e)
  have hl:=putR_len x s
  apply Ev.succ
  simp only[b7_.l0,a_,bt_ e]
  refine Ev.pos hm.1 (Ev.pos (by omega) (Ev.pos hm.1 (Ev.bind' _ (specPut_eq s x (by omega) h2 hx) ?_)))
  rw[w64 (by omega) (by omega)]
  exact ih (putR x s) ⟨by simp;omega,putR_good hx h2⟩
theorem goodD_good {a b:Int} {l m:List aa_} (h:goodD a b l m=true) (s1:∀r∈l,szR r) (s2:∀r∈m,szR r):(l.length≤40∧goodL l)∧m.length≤40∧goodL m:=by
 simp only[goodD,Bool.and_eq_true,decide_eq_true_eq] at h
 obtain⟨⟨⟨⟨⟨⟨⟨h1,h2⟩,h3⟩,h4⟩,h5⟩,h6⟩,h7⟩,h8⟩:=h
 obtain⟨r1,r2⟩:=rises_all h6
 obtain⟨r3,r4⟩:=rises_all h7
 exact⟨⟨h4,r1,fun x hx=>⟨r2 x hx,s1 x hx⟩⟩,h5,r3,fun x hx=>⟨r4 x hx,s2 x hx⟩⟩
def atR (l:List aa_) (name:ByteArray) (kind:Int):List aa_:=l.filter (fun r=>decide (bts r.f0=bts name)&&(decide (kind=0)||decide (r.f1=kind)))
def hasT (l:List aa_) (name:ByteArray) (kind:Int):Bool:=l.any (fun r=>decide (bts r.f0=bts name)&&decide (r.f1=kind))
theorem at_eq (l:List aa_) (name:ByteArray) (kind:Int) (hl:l.length≤1048576):Ev (fun k=>cg_.f k l name kind) (atR l name kind):=by
 unfold cg_.f atR
 refine Ev.eq_ (a4_ l (fun k (acc:List aa_) i=>cg_.l0 k name kind acc l (l.length:Int) i) (fun acc t=>acc++t.filter (fun r=>decide (bts r.f0=bts name)&&(decide (kind=0)||decide (r.f1=kind)))) (fun p acc=>acc.length≤p.length) ?_ ?_ [] (Nat.le_refl _)) (by simp)
 ·intro acc _
  apply Ev.succ
  simp only[cg_.l0]
  exact Ev.neg (by omega) (Ev.const (by simp))
 ·intro p x t acc e ha ih
  have hm:=bc_ e
  apply Ev.succ
  simp only[cg_.l0,a_,bt_ e,bs_]
  rw[w64 (i:=(p.length:Int)+1) (by omega) (by omega)]
  refine Ev.pos hm.1 (Ev.pos (by omega) (Ev.pos hm.1 ?_))
  by_cases h1:bts x.f0=bts name
  ·refine Ev.pos h1 ?_
   by_cases h2:kind=0
   ·refine Ev.pos h2 (Ev.pos (by omega) (Ev.eq_ (ih (acc++[x]) (by simp;omega)) ?_))
    rw[List.filter_cons_of_pos (by simp[h1,h2])]
    simp
   ·refine Ev.neg h2 ?_
    by_cases h3:x.f1=kind
    ·refine Ev.pos h3 (Ev.pos (by omega) (Ev.eq_ (ih (acc++[x]) (by simp;omega)) ?_))
     rw[List.filter_cons_of_pos (by simp[h1,h3])]
     simp
    ·refine Ev.neg h3 (Ev.eq_ (ih acc (by simp;omega)) ?_)
     rw[List.filter_cons_of_neg (by simp[h2,h3])]
  ·refine Ev.neg h1 (Ev.eq_ (ih acc (by simp;omega)) ?_)
   rw[List.filter_cons_of_neg (by simp[h1])]
theorem hasT_eq (l:List aa_) (name:ByteArray) (kind:Int) (hl:l.length≤1048576):Ev (fun k=>b1_.f k l name kind) (hasT l name kind):=by
 unfold b1_.f hasT
 refine a4_ l (fun k (_:Unit) i=>b1_.l0 k name kind l (l.length:Int) i) (fun _ t=>t.any (fun r=>decide (bts r.f0=bts name)&&decide (r.f1=kind))) (fun _ _=>True) ?_ ?_ () trivial
 ·intro _ _
  apply Ev.succ
  simp only[b1_.l0]
  exact Ev.neg (by omega) (Ev.const (by simp))
 ·intro p x t _ e _ ih
  have hm:=bc_ e
  apply Ev.succ
  simp only[b1_.l0,a_,bt_ e,bs_]
  rw[w64 (i:=(p.length:Int)+1) (by omega) (by omega)]
  refine Ev.pos hm.1 (Ev.pos (by omega) (Ev.pos hm.1 ?_))
  by_cases h1:bts x.f0=bts name
  ·refine Ev.pos h1 ?_
   by_cases h3:x.f1=kind
   ·exact Ev.pos h3 (Ev.const (by simp[h1,h3]))
   ·exact Ev.neg h3 (Ev.eq_ (ih () trivial) (by simp[h3]))
  ·exact Ev.neg h1 (Ev.eq_ (ih () trivial) (by simp[h1]))
theorem atR_len (l:List aa_) (name:ByteArray) (kind:Int):(atR l name kind).length≤l.length:=List.length_filter_le _ _
def belowN (a b:ByteArray):Bool:=decide (bts b=[])||decide (bts a=bts b)||(46::bts b).isSuffixOf (bts a)
theorem suffix_drop {α:Type} [BEq α] [LawfulBEq α] (l m:List α):m.isSuffixOf l=(decide (m.length≤l.length)&&(l.drop (l.length - m.length)==m)):=by
 rw[Bool.eq_iff_iff,List.isSuffixOf_iff_suffix]
 simp only[Bool.and_eq_true,decide_eq_true_eq,beq_iff_eq]
 constructor
 ·rintro⟨p,rfl⟩
  refine⟨by simp,?_⟩
  simp
 ·rintro⟨h1,h2⟩
  exact⟨l.take (l.length - m.length),by rw[←h2,List.length_drop];have:l.length - (l.length - (l.length - m.length))=l.length - m.length:=(by omega);rw[this];exact List.take_append_drop _ _⟩
theorem specBelow_eq (a b:ByteArray) (ha:a.size≤1048576) (hb:b.size≤1048576):cL_.f a b=some (belowN a b):=by
 have za:=bq_ a
 have zb:=bq_ b
 unfold cL_.f belowN
 simp only[bs_]
 by_cases h1:bts b=[]
 ·rw[if_pos h1];simp[h1]
 ·rw[if_neg h1]
  by_cases h2:bts a=bts b
  ·rw[if_pos h2];simp[h2]
  ·rw[if_neg h2]
   have hn:(decide (bts b=[])||decide (bts a=bts b))=false:=by simp[h1,h2]
   rw[hn,Bool.false_or,suffix_drop]
   rw[w64 (i:=(a.size:Int) - (b.size:Int)) (by omega) (by omega)]
   by_cases h3:(a.size:Int) - (b.size:Int) > 0
   ·rw[if_pos h3,if_pos (by omega),if_pos (by omega),w64 (i:=(a.size:Int) - (b.size:Int) - 1) (by omega) (by omega)]
    obtain⟨c,hc⟩:∃c:Nat,a.size=b.size+(c+1):=⟨a.size - b.size - 1,by omega⟩
    have e1:((a.size:Int) - (b.size:Int)).toNat=c+1:=by omega
    have e2:(a.size:Int) - (b.size:Int) - 1=(c:Int):=by omega
    have hl:(bts a).length=(bts b).length+(c+1):=by omega
    obtain⟨p,x,t,e,hp⟩:∃p x t,bts a=p++x::t∧p.length=c:=by
     refine⟨(bts a).take c,(bts a)[c]'(by omega),(bts a).drop (c+1),?_,by simp;omega⟩
     rw[List.getElem_cons_drop]
     exact(List.take_append_drop _ _).symm
    have hx:bt a (c:Int)=(x.toNat:Int):=by rw[←hp];exact bt_mid e
    have ht:bts (a.extract (c+1) a.size)=t:=by
     rw[extract_bts,ci_,e,←hp]
     have:p++x::t=(p++[x])++t:=by simp
     rw[this,show p.length+1=(p++[x]).length from by simp,List.drop_left,List.take_of_length_le]
     have hz:(bts a).length=p.length+(t.length+1):=by rw[e];simp
     have hlp:(p++[x]).length=p.length+1:=by simp
     omega
    have htl:t.length=(bts b).length:=by
     have hz:(bts a).length=p.length+(t.length+1):=by rw[e];simp
     omega
    rw[e1,ht,e2,hx]
    have hd:(bts a).drop ((bts a).length - (46::bts b).length)=x::t:=by
     have:(bts a).length - (46::bts b).length=p.length:=by simp;omega
     rw[this,e,List.drop_left]
    rw[hd]
    have hle:decide ((46::bts b).length≤(bts a).length)=true:=decide_eq_true (by simp;omega)
    rw[hle,Bool.true_and]
    by_cases h4:t=bts b
    ·rw[if_pos h4,if_pos (by omega),if_pos (by omega)]
     congr 1
     rw[h4]
     by_cases h5:x=46
     ·subst h5
      simp
     ·have:¬((x.toNat:Int)=46):=by
       intro h
       apply h5
       apply UInt8.toNat_inj.mp
       have h46:(46:UInt8).toNat=46:=rfl
       omega
      have a1:(((x.toNat:Int))==46)=false:=beq_eq_false_iff_ne.mpr this
      have a2:(x==46)=false:=beq_eq_false_iff_ne.mpr h5
      simp[a1,a2]
    ·rw[if_neg h4]
     simp[h4]
   ·rw[if_neg h3]
    have hle:decide ((46::bts b).length≤(bts a).length)=false:=decide_eq_false (by simp;omega)
    rw[hle,Bool.false_and]
theorem implBelow_eq (a b:ByteArray) (ha:a.size≤1048576) (hb:b.size≤1048576):cE_.f a b=some (belowN a b):=by
 have za:=bq_ a
 have zb:=bq_ b
 unfold cE_.f belowN
 simp only[bs_]
 by_cases h2:bts a=bts b
 ·rw[if_pos h2];simp[h2]
 ·rw[if_neg h2]
  by_cases h1:bts b=[]
  ·rw[if_pos h1];simp[h1]
  ·rw[if_neg h1,if_pos (by omega)]
   have hn:(decide (bts b=[])||decide (bts a=bts b))=false:=by simp[h1,h2]
   rw[hn,Bool.false_or,suffix_drop]
   have hs:bts ((⟨#[46]⟩:ByteArray)++b)=46::bts b:=by
    unfold bts
    rw[ByteArray.data_append]
    simp
   have hz:((⟨#[46]⟩:ByteArray)++b).size=b.size+1:=by rw[bq_,hs];simp;omega
   unfold strings_HasSuffix.f cH_.f
   by_cases h3:(a.size:Int)≥(((⟨#[46]⟩:ByteArray)++b).size:Int)
   ·rw[if_pos h3]
    rw[hz] at h3
    rw[hz,w64 (i:=(a.size:Int) - ((b.size+1:Nat):Int)) (by omega) (by omega),if_pos (by omega),if_pos (by omega)]
    simp only[Option.bind_some]
    congr 1
    have e1:((a.size:Int) - ((b.size+1:Nat):Int)).toNat=(bts a).length - (46::bts b).length:=by simp;omega
    rw[e1,bs_,bs_,extract_bts,ci_,hs,List.take_of_length_le (by simp;omega)]
    have hle:decide ((46::bts b).length≤(bts a).length)=true:=decide_eq_true (by simp;omega)
    rw[hle,Bool.true_and]
   ·rw[if_neg h3]
    rw[hz] at h3
    have hle:decide ((46::bts b).length≤(bts a).length)=false:=decide_eq_false (by simp;omega)
    rw[hle,Bool.false_and]
    rfl
def after:List UInt8→List UInt8
 | []=>[]
 | b::t=>if b=46 then t else after t
def parentN (s:ByteArray):ByteArray:=⟨(after (bts s)).toArray⟩
theorem after_pre (post:List UInt8):∀pre:List UInt8,46∉pre→after (pre++46::post)=post
 | [],_=>by simp[after]
 | b::pre,h=>by
  have hb:b≠46:=fun e=>h (by simp[e])
  rw[List.cons_append,show after (b::(pre++46::post))=if b=46 then pre++46::post else after (pre++46::post) from rfl,if_neg hb]
  exact after_pre post pre (fun hm=>h (by simp[hm]))
theorem after_none:∀l:List UInt8,46∉l→after l=[]
 | [],_=>rfl
 | b::l,h=>by
  have hb:b≠46:=fun e=>h (by simp[e])
  rw[show after (b::l)=if b=46 then l else after l from rfl,if_neg hb]
  exact after_none l (fun hm=>h (by simp[hm]))
theorem after_len:∀l:List UInt8,l≠[]→(after l).length<l.length
 | [],h=>absurd rfl h
 | b::l,_=>by
  unfold after
  split
  ·simp
  ·cases l with
   | nil=>simp[after]
   | cons c l=>have:=after_len (c::l) (by simp);simp at this ⊢;omega
theorem parentN_size (s:ByteArray):(parentN s).size≤s.size:=by
 rw[bq_,bq_,parentN,ci_]
 cases h:bts s with
 | nil=>simp[after]
 | cons b l=>have:=after_len (b::l) (by simp);omega
theorem dot_split (l:List UInt8):46∉l∧Go.Lib.indexByte l 46 = -1∨∃pre post,l=pre++46::post∧46∉pre∧Go.Lib.indexByte l 46=(pre.length:Int):=by
 rcases Nat.eq_zero_or_pos (Go.Lib.countByte l 46) with h|h
 ·exact Or.inl (index_none l 46 h)
 ·obtain⟨pre,post,h1,h2,h3,_⟩:=index_some l 46 h
  exact Or.inr ⟨pre,post,h1,h2,h3⟩
theorem specParent_eq (s:ByteArray) (hs:s.size≤1048576):Ev (fun k=>bZ_.f k s) (parentN s):=by
 have hz:=bq_ s
 unfold bZ_.f
 refine Ev.eq_ (a4_ (bts s) (fun k (_:Unit) i=>bZ_.l0 k s i) (fun _ t=>(⟨(after t).toArray⟩:ByteArray)) (fun _ _=>True) ?_ ?_ () trivial) rfl
 ·intro _ _
  apply Ev.succ
  simp only[bZ_.l0]
  exact Ev.neg (by omega) (Ev.const rfl)
 ·intro p b t _ e _ ih
  have hm:=bc_ e
  apply Ev.succ
  simp only[bZ_.l0]
  refine Ev.pos (by omega) (Ev.pos (by omega) ?_)
  rw[bt_mid e,w64 (i:=(p.length:Int)+1) (by omega) (by omega)]
  by_cases h5:b=46
  ·subst h5
   refine Ev.pos rfl (Ev.pos (by omega) (Ev.pos (by omega) (Ev.const ?_)))
   rw[extract_bts]
   have h6:bts s=(p++[46])++t:=by rw[e];simp
   have h7:(p++[46]).length=p.length+1:=by simp
   have h8:((p.length:Int)+1).toNat=(p++[46]).length:=by omega
   rw[h8,h6,List.drop_left,List.take_of_length_le (by omega)]
   simp[after]
  ·have:¬((b.toNat:Int)=46):=by
    intro h
    apply h5
    apply UInt8.toNat_inj.mp
    have h46:(46:UInt8).toNat=46:=rfl
    omega
   refine Ev.neg this (Ev.eq_ (ih () trivial) ?_)
   simp[after,h5]
def ups (apex:ByteArray):Nat→ByteArray→List ByteArray
 | 0,_=>[]
 | n+1,s=>if bts s=bts apex then [] else s::ups apex n (parentN s)
def cutStep (l:List aa_) (st:ByteArray × Bool) (s:ByteArray):ByteArray × Bool:=if hasT l s 2=true then(s,true) else st
def cutSt (l:List aa_) (st:ByteArray × Bool) (c:List ByteArray):ByteArray × Bool:=c.foldl (cutStep l) st
theorem below_self (s:ByteArray):belowN s s=true:=by simp[belowN]
theorem below_iff {a b:ByteArray}:belowN a b=true↔bts b=[]∨bts a=bts b∨(46::bts b) <:+ bts a:=by
 unfold belowN
 simp only[Bool.or_eq_true,decide_eq_true_eq,List.isSuffixOf_iff_suffix,or_assoc]
theorem parent_bts (s:ByteArray):bts (parentN s)=after (bts s):=by rw[parentN,ci_]
theorem below_parent {s a:ByteArray} (h:belowN s a=true) (hne:bts s≠bts a):bts s≠[]∧belowN (parentN s) a=true:=by
 rcases below_iff.mp h with h1|h1|⟨p,h1⟩
 ·refine⟨fun h2=>hne (by rw[h1,h2]),below_iff.mpr (Or.inl h1)⟩
 ·exact absurd h1 hne
 ·refine⟨fun h2=>?_,?_⟩
  ·rw[h2] at h1
   have:=congrArg List.length h1
   simp at this
  ·rcases dot_split p with ⟨h2,_⟩|⟨pre,post,e,h2,_⟩
   ·refine below_iff.mpr (Or.inr (Or.inl ?_))
    rw[parent_bts,←h1,after_pre _ _ h2]
   ·refine below_iff.mpr (Or.inr (Or.inr ⟨post,?_⟩))
    rw[parent_bts,←h1,e]
    simp only[List.append_assoc,List.cons_append]
    rw[after_pre _ _ h2]
theorem below_up {s c:ByteArray} (h:belowN (parentN s) c=true):belowN s c=true:=by
 rcases below_iff.mp h with h1|h1|⟨p,h1⟩
 ·exact below_iff.mpr (Or.inl h1)
 ·rw[parent_bts] at h1
  rcases dot_split (bts s) with ⟨h2,_⟩|⟨pre,post,e,h2,_⟩
  ·rw[after_none _ h2] at h1
   exact below_iff.mpr (Or.inl h1.symm)
  ·rw[e,after_pre _ _ h2] at h1
   refine below_iff.mpr (Or.inr (Or.inr ⟨pre,?_⟩))
   rw[e,h1]
 ·rw[parent_bts] at h1
  rcases dot_split (bts s) with ⟨h2,_⟩|⟨pre,post,e,h2,_⟩
  ·rw[after_none _ h2] at h1
   have:=congrArg List.length h1
   simp at this
  ·rw[e,after_pre _ _ h2] at h1
   refine below_iff.mpr (Or.inr (Or.inr ⟨pre++46::p,?_⟩))
   rw[e,←h1]
   simp
theorem parent_lt {s:ByteArray} (h:bts s≠[]):(parentN s).size<s.size:=by
 rw[bq_,bq_,parent_bts]
 exact after_len _ h
theorem l6Cut_loop (apex:ByteArray) (l:List aa_) (ha:apex.size≤1048576) (hl:l.length≤1048576):∀(n:Nat) (s:ByteArray) (st:ByteArray × Bool),s.size<n→s.size≤1048576→belowN s apex=true →
  Ev (fun k=>bI_.l0 k apex l s st.1 st.2) (cutSt l st (ups apex n s))
 | 0,_,_,h,_,_=>by omega
 | n+1,s,st,hn,hs,hb=>by
  apply Ev.succ
  simp only[bI_.l0,bs_]
  by_cases e:bts s=bts apex
  ·refine Ev.pos e (Ev.succ ?_)
   simp only[bI_.j1]
   exact Ev.neg (by simp) (Ev.const (by simp[ups,e,cutSt]))
  ·obtain⟨h1,h2⟩:=below_parent hb e
   have h3:=parent_lt h1
   refine Ev.neg e (Ev.cbind _ (specBelow_eq s apex hs ha) ?_)
   rw[hb]
   apply Ev.succ
   simp only[bI_.j1,bs_]
   refine Ev.pos (by first|rfl|trivial) (Ev.bind' _ (hasT_eq l s 2 hl) ?_)
   have hu:ups apex (n+1) s=s::ups apex n (parentN s):=by
    rw[show ups apex (n+1) s=if bts s=bts apex then [] else s::ups apex n (parentN s) from rfl,if_neg e]
   rw[hu]
   have hc:cutSt l st (s::ups apex n (parentN s))=cutSt l (cutStep l st s) (ups apex n (parentN s)):=rfl
   rw[hc]
   unfold cutStep
   cases hh:hasT l s 2 with
   | true =>
    refine Ev.aK_ (Ev.neg h1 (Ev.bind' _ (specParent_eq s hs) ?_))
    exact l6Cut_loop apex l ha hl n (parentN s) (s,true) (by omega) (by omega) h2
   | false =>
    refine Ev.aG_ (Ev.neg h1 (Ev.bind' _ (specParent_eq s hs) ?_))
    exact l6Cut_loop apex l ha hl n (parentN s) st (by omega) (by omega) h2
def cutOf (apex:ByteArray) (l:List aa_) (s:ByteArray):ByteArray × Bool:=cutSt l ((⟨#[]⟩:ByteArray),false) (ups apex (s.size+1) s)
theorem l6Cut_eq (apex:ByteArray) (l:List aa_) (s:ByteArray) (ha:apex.size≤1048576) (hl:l.length≤1048576) (hs:s.size≤1048576) (hb:belowN s apex=true):Ev (fun k=>bI_.f k apex l s) (cutOf apex l s):=by
 unfold bI_.f
 exact l6Cut_loop apex l ha hl (s.size+1) s ((⟨#[]⟩:ByteArray),false) (by omega) hs hb
theorem below_antisymm {a b:ByteArray} (h1:belowN a b=true) (h2:belowN b a=true):bts a=bts b:=by
 have hsz:∀x y:ByteArray,belowN x y=true→bts x=bts y∨(bts y).length<(bts x).length:=by
  intro x y h
  rcases below_iff.mp h with h1|h1|h1
  ·by_cases hx:bts x=[]
   ·exact Or.inl (by rw[hx,h1])
   ·refine Or.inr ?_
    rw[h1]
    simpa[List.length_pos_iff] using hx
  ·exact Or.inl h1
  ·have:=h1.length_le
   simp at this
   exact Or.inr (by omega)
 rcases hsz a b h1 with h3|h3
 ·exact h3
 ·rcases hsz b a h2 with h4|h4
  ·exact h4.symm
  ·omega
theorem ups_mem (apex:ByteArray):∀(n:Nat) (s c:ByteArray),s.size<n→belowN s apex=true→(c∈ups apex n s↔belowN s c=true∧belowN c apex=true∧bts c≠bts apex)
 | 0,_,_,h,_=>by omega
 | n+1,s,c,hn,hb=>by
  have hu:ups apex (n+1) s=if bts s=bts apex then [] else s::ups apex n (parentN s):=rfl
  rw[hu]
  by_cases e:bts s=bts apex
  ·rw[if_pos e]
   constructor
   ·intro h;cases h
   ·rintro⟨h1,h2,h3⟩
    have e2:s=apex:=bts_inj e
    rw[e2] at h1
    exact absurd (below_antisymm h2 h1) h3
  ·rw[if_neg e]
   obtain⟨h1,h2⟩:=below_parent hb e
   have h3:=parent_lt h1
   have ih:=ups_mem apex n (parentN s) c (by omega) h2
   rw[List.mem_cons,ih]
   constructor
   ·rintro(rfl|⟨h4,h5,h6⟩)
    ·exact⟨below_self _,hb,e⟩
    ·exact⟨below_up h4,h5,h6⟩
   ·rintro⟨h4,h5,h6⟩
    by_cases h7:bts s=bts c
    ·exact Or.inl (bts_inj h7.symm)
    ·exact Or.inr ⟨(below_parent h4 h7).2,h5,h6⟩
theorem ups_size (apex:ByteArray):∀(n:Nat) (s c:ByteArray),c∈ups apex n s→c.size≤s.size
 | 0,_,_,h=>by cases h
 | n+1,s,c,h=>by
  have hu:ups apex (n+1) s=if bts s=bts apex then [] else s::ups apex n (parentN s):=rfl
  rw[hu] at h
  split at h
  ·cases h
  ·rcases List.mem_cons.mp h with rfl|h
   ·exact Nat.le_refl _
   ·have:=ups_size apex n (parentN s) c h
    have:=parentN_size s
    omega
theorem cutSt_has (l:List aa_):∀(c:List ByteArray) (st:ByteArray × Bool),(cutSt l st c).2=(st.2||c.any (fun s=>hasT l s 2))
 | [],st=>by simp[cutSt]
 | s::c,st=>by
  have h:cutSt l st (s::c)=cutSt l (cutStep l st s) c:=rfl
  rw[h,cutSt_has l c]
  unfold cutStep
  cases hh:hasT l s 2<;>simp[hh]
theorem cutSt_mem (l:List aa_):∀(c:List ByteArray) (st:ByteArray × Bool),(cutSt l st c=st∧c.any (fun s=>hasT l s 2)=false)∨((cutSt l st c).1∈c∧hasT l (cutSt l st c).1 2=true)
 | [],st=>by simp[cutSt]
 | s::c,st=>by
  have h:cutSt l st (s::c)=cutSt l (cutStep l st s) c:=rfl
  rw[h]
  rcases cutSt_mem l c (cutStep l st s) with ⟨h1,h2⟩|⟨h1,h2⟩
  ·rw[h1]
   unfold cutStep
   cases hh:hasT l s 2 with
   | true=>exact Or.inr ⟨by simp,by simpa using hh⟩
   | false=>exact Or.inl ⟨by simp,by simp[hh];simpa using h2⟩
  ·exact Or.inr ⟨List.mem_cons_of_mem _ h1,h2⟩
section
def soa1 (apex:ByteArray) (r:aa_):Nat:=if r.f1=6 then(if bts r.f0=bts apex then 1 else 2) else 0
def soaN (apex:ByteArray):List aa_→Nat
 | []=>0
 | r::t=>soa1 apex r+soaN apex t
def bad3 (a x:aa_):Bool:=decide (bts a.f0=bts x.f0)&&decide (a.f1=x.f1)&&(!decide (a.f2=x.f2)||decide (bts a.f3=bts x.f3))
def adj3:Option aa_→List aa_→Bool
 | _,[]=>false
 | none,x::t=>adj3 (some x) t
 | some a,x::t=>bad3 a x||adj3 (some x) t
def bad4 (o x:aa_):Bool:=decide (bts o.f0=bts x.f0)&&(decide (o.f1=5)||decide (x.f1=5))
def pair4:List aa_→List aa_→Bool
 | _,[]=>false
 | p,x::t=>p.any (fun o=>bad4 o x)||pair4 (p++[x]) t
def bad6 (apex:ByteArray) (l:List aa_) (r:aa_):Bool:=(cutOf apex l r.f0).2 && !decide (r.f1=1)&&(!decide (r.f1=2) || !decide (bts r.f0=bts (cutOf apex l r.f0).1))
def rule6 (apex:ByteArray) (l:List aa_):Int:=if l.any (bad6 apex l)=true then 6 else 0
def rule4 (apex:ByteArray) (l:List aa_):Int:=if pair4 [] l=true then 4 else if hasT l apex 5=true then 5 else rule6 apex l
def rule3 (apex:ByteArray) (l:List aa_):Int:=if adj3 none l=true then 3 else rule4 apex l
def ruleN (apex:ByteArray) (l:List aa_):Int:=if l.any (fun r => !belowN r.f0 apex)=true then 1 else if soaN apex l=1 then rule3 apex l else 2
section
variable (apex:ByteArray) (l:List aa_) (ha:apex.size≤1048576) (hl:l.length≤1048576) (hs:∀r∈l,szR r)
include ha hl hs
theorem specRule6 (hb:∀r∈l,belowN r.f0 apex=true):Ev (fun k=>az_.l4 k apex l l (l.length:Int) 0) (rule6 apex l):=by
 unfold rule6
 refine Ev.eq_ (a4_ l (fun k (_:Unit) i=>az_.l4 k apex l l (l.length:Int) i) (fun _ t=>if t.any (bad6 apex l)=true then(6:Int) else 0) (fun _ _=>True) ?_ ?_ () trivial) rfl
 ·intro _ _
  apply Ev.succ
  simp only[az_.l4]
  exact Ev.neg (by omega) (Ev.const (by simp))
 ·intro p x t _ e _ ih
  have hm:=bc_ e
  have hx:=hs x (b5_ e)
  have hc:=l6Cut_eq apex l x.f0 ha hl hx.1 (hb x (b5_ e))
  apply Ev.succ
  simp only[az_.l4,a_,bt_ e,bs_]
  rw[w64 (i:=(p.length:Int)+1) (by omega) (by omega)]
  refine Ev.pos hm.1 (Ev.pos (by omega) (Ev.pos hm.1 (Ev.bind' _ hc ?_)))
  have hq:bad6 apex l x=((cutOf apex l x.f0).2 && !decide (x.f1=1)&&(!decide (x.f1=2) || !decide (bts x.f0=bts (cutOf apex l x.f0).1))):=rfl
  rw[List.any_cons,hq]
  cases(cutOf apex l x.f0).2 with
  | false=>exact Ev.aG_ (Ev.eq_ (ih () trivial) (by simp))
  | true =>
   refine Ev.aK_ ?_
   by_cases h1:x.f1=1
   ·exact Ev.pos h1 (Ev.eq_ (ih () trivial) (by simp[h1]))
   ·refine Ev.neg h1 ?_
    by_cases h2:x.f1=2
    ·refine Ev.pos h2 ?_
     by_cases h3:bts x.f0=bts (cutOf apex l x.f0).1
     ·exact Ev.pos h3 (Ev.eq_ (ih () trivial) (by simp[h2,h3]))
     ·exact Ev.neg h3 (Ev.const (by simp[h1,h2,h3]))
    ·exact Ev.neg h2 (Ev.const (by simp[h1,h2]))
theorem specRule4 (hb:∀r∈l,belowN r.f0 apex=true):Ev (fun k=>az_.l2 k apex l l (l.length:Int) 0) (rule4 apex l):=by
 unfold rule4
 refine Ev.eq_ (a4_ l (fun k (_:List aa_) i=>az_.l2 k apex l l (l.length:Int) i) (fun p t=>if pair4 p t=true then 4 else if hasT l apex 5=true then 5 else rule6 apex l) (fun p q=>q=p) ?_ ?_ [] rfl) rfl
 ·intro q hq
  apply Ev.succ
  simp only[az_.l2]
  refine Ev.neg (by omega) (Ev.bind' _ (hasT_eq l apex 5 hl) ?_)
  have hp:pair4 q []=false:=by cases q<;>rfl
  rw[hp]
  cases hasT l apex 5 with
  | true=>exact Ev.aK_ (Ev.const (by simp))
  | false=>exact Ev.aG_ (Ev.eq_ (specRule6 apex l ha hl hs hb) (by simp))
 ·intro p x t q e hq ih
  obtain rfl:=hq.symm
  have hm:=bc_ e
  apply Ev.succ
  simp only[az_.l2,a_,bt_ e]
  have ht:l.take ((p.length:Int)).toNat=p:=by rw[e,Int.toNat_natCast,List.take_left'];rfl
  rw[ht]
  refine Ev.pos hm.1 (Ev.pos (by omega) (Ev.pos hm.1 (Ev.pos (by omega) (Ev.cbind _ rfl ?_))))
  have hgo:=ih (p++[x]) rfl
  have inner:Ev (fun k=>az_.l3 k apex l l (l.length:Int) (p.length:Int) p (p.length:Int) 0 x.f0 x.f1 x.f2 x.f3) (if p.any (fun o=>bad4 o x)=true then 4 else if pair4 (p++[x]) t=true then 4 else if hasT l apex 5=true then 5 else rule6 apex l):=by
   refine Ev.eq_ (a4_ p (fun k (_:Unit) i=>az_.l3 k apex l l (l.length:Int) (p.length:Int) p (p.length:Int) i x.f0 x.f1 x.f2 x.f3) (fun _ u=>if u.any (fun o=>bad4 o x)=true then(4:Int) else if pair4 (p++[x]) t=true then 4 else if hasT l apex 5=true then 5 else rule6 apex l) (fun _ _=>True) ?_ ?_ () trivial) rfl
   ·intro _ _
    apply Ev.succ
    simp only[az_.l3]
    rw[w64 (i:=(p.length:Int)+1) (by omega) (by omega)]
    exact Ev.neg (by omega) (Ev.eq_ hgo (by simp))
   ·intro p2 o u _ e2 _ ih2
    have hm2:=bc_ e2
    apply Ev.succ
    simp only[az_.l3,a_,bt_ e2,bs_]
    rw[w64 (i:=(p2.length:Int)+1) (by omega) (by omega)]
    have hq:bad4 o x=(decide (bts o.f0=bts x.f0)&&(decide (o.f1=5)||decide (x.f1=5))):=rfl
    rw[List.any_cons,hq]
    refine Ev.pos hm2.1 (Ev.pos (by omega) (Ev.pos hm2.1 ?_))
    by_cases h1:bts o.f0=bts x.f0
    ·refine Ev.pos h1 ?_
     by_cases h2:o.f1=5
     ·exact Ev.pos h2 (Ev.const (by simp[h1,h2]))
     ·refine Ev.neg h2 ?_
      by_cases h3:x.f1=5
      ·exact Ev.pos h3 (Ev.const (by simp[h1,h3]))
      ·exact Ev.neg h3 (Ev.eq_ (ih2 () trivial) (by simp[h2,h3]))
    ·exact Ev.neg h1 (Ev.eq_ (ih2 () trivial) (by simp[h1]))
  refine Ev.eq_ inner ?_
  rw[show pair4 p (x::t)=(p.any (fun o=>bad4 o x)||pair4 (p++[x]) t) from by cases p<;>rfl]
  cases p.any (fun o=>bad4 o x)<;>simp
theorem specRule3 (hb:∀r∈l,belowN r.f0 apex=true):Ev (fun k=>az_.l1 k apex l l (l.length:Int) 0) (rule3 apex l):=by
 unfold rule3
 refine Ev.eq_ (a4_ l (fun k (_:List aa_) i=>az_.l1 k apex l l (l.length:Int) i) (fun p t=>if adj3 p.getLast? t=true then 3 else rule4 apex l) (fun p q=>q=p) ?_ ?_ [] rfl) rfl
 ·intro q hq
  apply Ev.succ
  simp only[az_.l1]
  have hp:adj3 q.getLast? []=false:=by cases q.getLast?<;>rfl
  rw[hp]
  exact Ev.neg (by omega) (Ev.eq_ (specRule4 apex l ha hl hs hb) (by simp))
 ·intro p x t q e hq ih
  obtain rfl:=hq.symm
  have hm:=bc_ e
  have hgo:=ih (p++[x]) rfl
  have hlast:(p++[x]).getLast? = some x:=by simp
  rw[hlast] at hgo
  apply Ev.succ
  simp only[az_.l1,a_,bt_ e,bs_]
  refine Ev.pos hm.1 (Ev.pos (by omega) (Ev.pos hm.1 ?_))
  by_cases hp0:p=[]
  ·subst hp0
   refine Ev.neg (by simp) ?_
   rw[w64 (by simp) (by simp)]
   exact Ev.eq_ hgo (by simp[adj3])
  ·have hpl:0<p.length:=List.length_pos_iff.mpr hp0
   rw[w64 (i:=(p.length:Int) - 1) (by omega) (by omega),w64 (i:=(p.length:Int)+1) (by omega) (by omega),getLast_mid e hp0,lastOpt_some hp0]
   have hq:adj3 (some (p.getLast hp0)) (x::t)=(bad3 (p.getLast hp0) x||adj3 (some x) t):=rfl
   rw[hq]
   unfold bad3
   refine Ev.pos (by omega) (Ev.pos (by omega) (Ev.pos (by omega) ?_))
   by_cases h1:bts (p.getLast hp0).f0=bts x.f0
   ·refine Ev.pos h1 ?_
    by_cases h2:(p.getLast hp0).f1=x.f1
    ·refine Ev.pos h2 ?_
     by_cases h3:(p.getLast hp0).f2=x.f2
     ·refine Ev.pos h3 ?_
      by_cases h4:bts (p.getLast hp0).f3=bts x.f3
      ·exact Ev.pos h4 (Ev.const (by simp[h1,h2,h4]))
      ·exact Ev.neg h4 (Ev.eq_ hgo (by simp[h3,h4]))
     ·exact Ev.neg h3 (Ev.const (by simp[h1,h2,h3]))
    ·exact Ev.neg h2 (Ev.eq_ hgo (by simp[h2]))
   ·exact Ev.neg h1 (Ev.eq_ hgo (by simp[h1]))
theorem specRule_eq:Ev (fun k=>az_.f k apex l) (ruleN apex l):=by
 unfold az_.f ruleN
 have soa_len:∀t:List aa_,soaN apex t≤2 * t.length:=by
  intro t
  induction t with
  | nil=>simp[soaN]
  | cons r t ih =>
   have:soa1 apex r≤2:=by unfold soa1;split;split<;>omega;omega
   simp only[soaN,List.length_cons]
   omega
 have main:∀(t p:List aa_) (c:Nat),l=p++t→c≤2 * p.length→(∀r∈p,belowN r.f0 apex=true)→Ev (fun k=>az_.l0 k apex l (c:Int) l (l.length:Int) (p.length:Int)) (if t.any (fun r => !belowN r.f0 apex)=true then 1 else if c+soaN apex t=1 then rule3 apex l else 2):=by
  intro t
  induction t with
  | nil =>
   intro p c e hc hb
   have hp:p=l:=by rw[e];simp
   apply Ev.succ
   simp only[az_.l0]
   refine Ev.neg (by rw[hp];omega) ?_
   by_cases h1:c=1
   ·subst h1
    exact Ev.pos (by simp) (Ev.eq_ (specRule3 apex l ha hl hs (hp ▸ hb)) (by simp[soaN]))
   ·exact Ev.neg (by omega) (Ev.const (by simp[soaN,h1]))
  | cons x t ih =>
   intro p c e hc hb
   have hm:=bc_ e
   have hx:=hs x (b5_ e)
   apply Ev.succ
   simp only[az_.l0,a_,bt_ e,bs_]
   rw[w64 (i:=(p.length:Int)+1) (by omega) (by omega)]
   refine Ev.pos hm.1 (Ev.pos (by omega) (Ev.pos hm.1 (Ev.cbind _ (specBelow_eq x.f0 apex hx.1 ha) ?_)))
   rw[List.any_cons]
   cases hbx:belowN x.f0 apex with
   | false=>exact Ev.aG_ (Ev.const (by simp))
   | true =>
    refine Ev.aK_ ?_
    have hb2:∀r∈p++[x],belowN r.f0 apex=true:=by
     intro r hr
     rcases List.mem_append.mp hr with h|h
     ·exact hb r h
     ·simp only[List.mem_singleton] at h;rw[h];exact hbx
    have hs1:soa1 apex x≤2:=by unfold soa1;split;split<;>omega;omega
    have hgo:=ih (p++[x]) (c+soa1 apex x) (by rw[e];simp) (by simp;omega) hb2
    have hl1:(((p++[x]).length:Nat):Int)=(p.length:Int)+1:=by simp
    rw[hl1] at hgo
    have hsum:c+soa1 apex x+soaN apex t=c+soaN apex (x::t):=by simp only[soaN];omega
    rw[hsum] at hgo
    have hgo2:∀c':Int,c'=((c+soa1 apex x:Nat):Int)→Ev (fun k=>az_.l0 k apex l c' l (l.length:Int) ((p.length:Int)+1)) (if (!true||t.any (fun r => !belowN r.f0 apex))=true then 1 else if c+soaN apex (x::t)=1 then rule3 apex l else 2):=by
     intro c' hc'
     subst hc'
     exact Ev.eq_ hgo (by simp)
    by_cases h6:x.f1=6
    ·refine Ev.pos h6 ?_
     rw[w64 (i:=(c:Int)+1) (by omega) (by omega),w64 (i:=(c:Int)+1+1) (by omega) (by omega)]
     by_cases hn:bts x.f0=bts apex
     ·exact Ev.pos hn (hgo2 _ (by unfold soa1;rw[if_pos h6,if_pos hn];omega))
     ·exact Ev.neg hn (hgo2 _ (by unfold soa1;rw[if_pos h6,if_neg hn];omega))
    ·exact Ev.neg h6 (hgo2 _ (by unfold soa1;rw[if_neg h6];omega))
 have:=main l [] 0 rfl (by simp) (by simp)
 simpa using this
end
end
def starless (s:ByteArray):Bool:=(labels s).all (fun x => !decide (bts x=[42]))
def apexOk (s:ByteArray):Bool:=nameOk s&&starless s
theorem apexOk_name {s:ByteArray} (h:apexOk s=true):nameOk s=true:=by
 unfold apexOk at h
 simp only[Bool.and_eq_true] at h
 exact h.1
theorem specApex_eq (s:ByteArray) (hs:s.size≤1048576):Ev (fun k=>bO_.f k s) (apexOk s):=by
 unfold bO_.f
 have hl:=labels_len s
 have main:∀(L:List ByteArray) (hL:L.length≤1048577) (ok:Bool),Ev (fun k=>bO_.l0 k ok L (L.length:Int) 0) (ok&&L.all (fun x => !decide (bts x=[42]))):=by
  intro L hL ok
  refine a4_ L (fun k (b:Bool) i=>bO_.l0 k b L (L.length:Int) i) (fun b t=>b&&t.all (fun x => !decide (bts x=[42]))) (fun _ _=>True) ?_ ?_ ok trivial
  ·intro b _
   apply Ev.succ
   simp only[bO_.l0]
   exact Ev.neg (by omega) (Ev.const (by simp))
  ·intro p x t b e _ ih
   have hm:=bc_ e
   apply Ev.succ
   simp only[bO_.l0,rdOf_mid e]
   rw[w64 (i:=(p.length:Int)+1) (by omega) (by omega)]
   refine Ev.pos hm.1 (Ev.pos (by omega) (Ev.pos hm.1 ?_))
   cases b with
   | true=>exact Ev.aK_ (Ev.eq_ (ih _ trivial) (by rw[bs_,bne_dec];simp))
   | false=>exact Ev.aG_ (Ev.eq_ (ih _ trivial) (by simp))
 refine Ev.bind' _ (specLabels_eq s hs) ?_
 by_cases ha:(labels s).all labelOk=true
 ·rw[if_pos ha]
  refine Ev.eq_ (main (labels s) (by omega) _) ?_
  unfold apexOk nameOk starless
  rw[ha,Bool.and_true]
 ·rw[if_neg ha]
  refine Ev.eq_ (main [] (by simp) false) ?_
  have hn:nameOk s=false:=by
   unfold nameOk
   have:(labels s).all labelOk=false:=by simpa using ha
   rw[this,Bool.and_false]
  unfold apexOk
  rw[hn]
  rfl
theorem implApex_eq (s:ByteArray) (hs:s.size≤1048576):Ev (fun k=>impl_isApex.f k s) (apexOk s):=by
 unfold impl_isApex.f apexOk
 refine Ev.bind' _ (implGoodName_eq s hs) ?_
 cases hn:nameOk s with
 | false=>exact Ev.aG_ (Ev.const (by simp))
 | true =>
  refine Ev.aK_ (Ev.cbind _ (hasByte_eq s 42) (Ev.const ?_))
  have hst:=star_label hn
  unfold starless
  rw[Option.some.injEq,Bool.eq_iff_iff]
  simp only[Bool.true_and,Bool.not_eq_true',decide_eq_false_iff_not,List.all_eq_true,hst]
  constructor
  ·intro h2 x hx h3
   exact h2 ⟨x,hx,h3⟩
  ·rintro h2 ⟨x,hx,h3⟩
   exact h2 x hx h3
theorem aj_.idx (l0:List (aa_)) (a1_0:ByteArray) (l1_1:List (aa_)) (a1_2:Int) (q:(aa_)→Bool) (hl:l0.length≤1048576) (h:∀x∈l0,Ev (fun k=>impl_RuleOf_1.f k (x.f0) (x.f1) (x.f2) (x.f3) a1_0 l1_1 a1_2) (q x)):Ev (fun k=>aj_.f k l0 a1_0 l1_1 a1_2) (idxP q l0):=by
 unfold aj_.f
 refine Ev.eq_ (a4_ l0 (fun k (_:Nat) i=>aj_.l0 k l0 (l0.length:Int) i a1_0 l1_1 a1_2) (fun n t=>if 0≤idxP q t then(n:Int)+idxP q t else -1) (fun p n=>n=p.length) ?_ ?_ 0 rfl) ?_
 ·intro n hn
  apply Ev.succ
  simp only[aj_.l0]
  exact Ev.neg (by omega) (Ev.const (by simp[idxP]))
 ·intro p x t n e hn ih
  have hm:=bc_ e
  have hx:=h x (b5_ e)
  apply Ev.succ
  simp only[aj_.l0,a_,bt_ e]
  refine Ev.pos hm.1 (Ev.pos (by omega) (Ev.pos hm.1 (Ev.bind' _ hx ?_)))
  have hq:idxP q (x::t)=(if q x then 0 else if 0≤idxP q t then idxP q t+1 else -1):=rfl
  rw[hq]
  cases q x with
  | true=>exact Ev.aK_ (Ev.const (by simp[hn]))
  | false =>
   refine Ev.aG_ ?_
   rw[w64 (by omega) (by omega)]
   refine Ev.eq_ (ih (n+1) (by simp[hn])) ?_
   by_cases h2:0≤idxP q t
   ·simp[h2];omega
   ·simp[h2]
 ·by_cases h2:0≤idxP q l0
  ·simp[h2]
  ·rw[if_neg h2]
   exact(idxP_neg q l0 h2).symm
theorem aE_.any (l0:List (aa_)) (a1_0:ByteArray) (l1_1:List (aa_)) (a1_2:Int) (q:(aa_)→Bool) (hl:l0.length≤1048576) (h:∀x∈l0,Ev (fun k=>impl_RuleOf_1.f k (x.f0) (x.f1) (x.f2) (x.f3) a1_0 l1_1 a1_2) (q x)):Ev (fun k=>aE_.f k l0 a1_0 l1_1 a1_2) (l0.any q):=by
 unfold aE_.f
 refine Ev.bind' _ (aj_.idx l0 a1_0 l1_1 a1_2 q hl h) (Ev.const ?_)
 rw[idxP_nonneg]
theorem ao_.idx (l0:List (aa_)) (a1_0:ByteArray) (a1_1:Int) (a1_2:Int) (a1_3:ByteArray) (q:(aa_)→Bool) (hl:l0.length≤1048576) (h:∀x∈l0,Ev (fun k=>impl_breaks_1.f (x.f0) (x.f1) (x.f2) (x.f3) a1_0 a1_1 a1_2 a1_3) (q x)):Ev (fun k=>ao_.f k l0 a1_0 a1_1 a1_2 a1_3) (idxP q l0):=by
 unfold ao_.f
 refine Ev.eq_ (a4_ l0 (fun k (_:Nat) i=>ao_.l0 k l0 (l0.length:Int) i a1_0 a1_1 a1_2 a1_3) (fun n t=>if 0≤idxP q t then(n:Int)+idxP q t else -1) (fun p n=>n=p.length) ?_ ?_ 0 rfl) ?_
 ·intro n hn
  apply Ev.succ
  simp only[ao_.l0]
  exact Ev.neg (by omega) (Ev.const (by simp[idxP]))
 ·intro p x t n e hn ih
  have hm:=bc_ e
  have hx:=h x (b5_ e)
  apply Ev.succ
  simp only[ao_.l0,a_,bt_ e]
  refine Ev.pos hm.1 (Ev.pos (by omega) (Ev.pos hm.1 (Ev.bind' _ hx ?_)))
  have hq:idxP q (x::t)=(if q x then 0 else if 0≤idxP q t then idxP q t+1 else -1):=rfl
  rw[hq]
  cases q x with
  | true=>exact Ev.aK_ (Ev.const (by simp[hn]))
  | false =>
   refine Ev.aG_ ?_
   rw[w64 (by omega) (by omega)]
   refine Ev.eq_ (ih (n+1) (by simp[hn])) ?_
   by_cases h2:0≤idxP q t
   ·simp[h2];omega
   ·simp[h2]
 ·by_cases h2:0≤idxP q l0
  ·simp[h2]
  ·rw[if_neg h2]
   exact(idxP_neg q l0 h2).symm
theorem aR_.any (l0:List (aa_)) (a1_0:ByteArray) (a1_1:Int) (a1_2:Int) (a1_3:ByteArray) (q:(aa_)→Bool) (hl:l0.length≤1048576) (h:∀x∈l0,Ev (fun k=>impl_breaks_1.f (x.f0) (x.f1) (x.f2) (x.f3) a1_0 a1_1 a1_2 a1_3) (q x)):Ev (fun k=>aR_.f k l0 a1_0 a1_1 a1_2 a1_3) (l0.any q):=by
 unfold aR_.f
 refine Ev.bind' _ (ao_.idx l0 a1_0 a1_1 a1_2 a1_3 q hl h) (Ev.const ?_)
 rw[idxP_nonneg]
theorem an_.idx (l0:List (aa_)) (a1_0:ByteArray) (a1_1:ByteArray) (a1_2:Int) (a1_3:Int) (a1_4:ByteArray) (q:(aa_)→Bool) (hl:l0.length≤1048576) (h:∀x∈l0,Ev (fun k=>impl_breaks_2.f (x.f0) (x.f1) (x.f2) (x.f3) a1_0 a1_1 a1_2 a1_3 a1_4) (q x)):Ev (fun k=>an_.f k l0 a1_0 a1_1 a1_2 a1_3 a1_4) (idxP q l0):=by
 unfold an_.f
 refine Ev.eq_ (a4_ l0 (fun k (_:Nat) i=>an_.l0 k l0 (l0.length:Int) i a1_0 a1_1 a1_2 a1_3 a1_4) (fun n t=>if 0≤idxP q t then(n:Int)+idxP q t else -1) (fun p n=>n=p.length) ?_ ?_ 0 rfl) ?_
 ·intro n hn
  apply Ev.succ
  simp only[an_.l0]
  exact Ev.neg (by omega) (Ev.const (by simp[idxP]))
 ·intro p x t n e hn ih
  have hm:=bc_ e
  have hx:=h x (b5_ e)
  apply Ev.succ
  simp only[an_.l0,a_,bt_ e]
  refine Ev.pos hm.1 (Ev.pos (by omega) (Ev.pos hm.1 (Ev.bind' _ hx ?_)))
  have hq:idxP q (x::t)=(if q x then 0 else if 0≤idxP q t then idxP q t+1 else -1):=rfl
  rw[hq]
  cases q x with
  | true=>exact Ev.aK_ (Ev.const (by simp[hn]))
  | false =>
   refine Ev.aG_ ?_
   rw[w64 (by omega) (by omega)]
   refine Ev.eq_ (ih (n+1) (by simp[hn])) ?_
   by_cases h2:0≤idxP q t
   ·simp[h2];omega
   ·simp[h2]
 ·by_cases h2:0≤idxP q l0
  ·simp[h2]
  ·rw[if_neg h2]
   exact(idxP_neg q l0 h2).symm
theorem aP_.any (l0:List (aa_)) (a1_0:ByteArray) (a1_1:ByteArray) (a1_2:Int) (a1_3:Int) (a1_4:ByteArray) (q:(aa_)→Bool) (hl:l0.length≤1048576) (h:∀x∈l0,Ev (fun k=>impl_breaks_2.f (x.f0) (x.f1) (x.f2) (x.f3) a1_0 a1_1 a1_2 a1_3 a1_4) (q x)):Ev (fun k=>aP_.f k l0 a1_0 a1_1 a1_2 a1_3 a1_4) (l0.any q):=by
 unfold aP_.f
 refine Ev.bind' _ (an_.idx l0 a1_0 a1_1 a1_2 a1_3 a1_4 q hl h) (Ev.const ?_)
 rw[idxP_nonneg]
section
def eqR4 (x r:aa_):Bool:=decide (bts x.f0=bts r.f0)&&decide (x.f1=r.f1)&&decide (x.f2=r.f2)&&decide (bts x.f3=bts r.f3)
def q3 (r x:aa_):Bool := !decide (x.f2=r.f2)||(decide (bts x.f3=bts r.f3) && !eqR4 x r)
def q6 (apex:ByteArray) (r c:aa_):Bool:=decide (c.f1=2) && !decide (bts c.f0=bts apex)&&belowN r.f0 c.f0 && !decide (r.f1=1) && !(decide (r.f1=2)&&decide (bts r.f0=bts c.f0))
def brk (apex:ByteArray) (l:List aa_) (i:Int) (r:aa_):Bool :=
 if i=1 then !belowN r.f0 apex else if i=2 then decide (r.f1=6) && !decide (bts r.f0=bts apex) else if i=3 then(atR l r.f0 r.f1).any (q3 r)
 else if i=4 then decide (r.f1=5)&&decide ((atR l r.f0 0).length > 1) else if i=5 then decide (r.f1=5)&&decide (bts r.f0=bts apex) else l.any (q6 apex r)
theorem beq_dec' (a b:List UInt8):(a==b)=decide (a=b):=by
 by_cases h:a=b
 ·simp[h]
 ·rw[beq_eq_false_iff_ne.mpr h];simp[h]
theorem beqI_dec (a b:Int):(a==b)=decide (a=b):=by
 by_cases h:a=b
 ·simp[h]
 ·rw[beq_eq_false_iff_ne.mpr h];simp[h]
theorem bneB_dec (a b:List UInt8):(a != b) = !decide (a=b):=by rw[bne,beq_dec']
theorem q3_eq (r x:aa_):impl_breaks_1.f x.f0 x.f1 x.f2 x.f3 r.f0 r.f1 r.f2 r.f3=some (q3 r x):=by
 unfold impl_breaks_1.f q3 eqR4
 simp only[bs_,beq_dec',beqI_dec]
 by_cases h1:x.f2=r.f2
 ·rw[if_pos h1]
  by_cases h2:bts x.f3=bts r.f3
  ·rw[if_pos h2]
   congr 1
   simp only[h1,h2,decide_true,Bool.not_true,Bool.false_or,Bool.true_and,Bool.and_true,Bool.or_false,Bool.not_and]
  ·rw[if_neg h2]
   simp[h1,h2]
 ·rw[if_neg h1]
  simp[h1]
theorem q6_eq (apex:ByteArray) (r c:aa_) (hr:szR r) (hc:szR c):impl_breaks_2.f c.f0 c.f1 c.f2 c.f3 apex r.f0 r.f1 r.f2 r.f3=some (q6 apex r c):=by
 unfold impl_breaks_2.f q6
 rw[implBelow_eq r.f0 c.f0 hr.1 hc.1]
 simp only[bs_,beq_dec',Option.bind_some]
 by_cases h1:c.f1=2
 ·rw[if_pos h1]
  by_cases h2:bts c.f0=bts apex
  ·rw[if_pos h2];simp[h2]
  ·rw[if_neg h2]
   cases hb:belowN r.f0 c.f0 with
   | false=>simp
   | true =>
    rw[if_pos rfl]
    by_cases h3:r.f1=1
    ·rw[if_pos h3];simp[h3]
    ·rw[if_neg h3]
     by_cases h4:r.f1=2
     ·rw[if_pos h4];simp[h1,h2,h4]
     ·rw[if_neg h4];simp[h1,h2,h3,h4]
 ·rw[if_neg h1];simp[h1]
section
variable (apex:ByteArray) (l:List aa_) (ha:apex.size≤1048576) (hl:l.length≤1048576) (hs:∀r∈l,szR r)
include ha hl hs
theorem brk_eq (r:aa_) (hr:szR r) (i:Int):Ev (fun k=>impl_breaks.f k apex l r.f0 r.f1 r.f2 r.f3 i) (brk apex l i r):=by
 unfold impl_breaks.f brk
 by_cases h1:i=1
 ·rw[if_pos h1]
  exact Ev.pos h1 (Ev.cbind _ (implBelow_eq r.f0 apex hr.1 ha) (Ev.const rfl))
 ·rw[if_neg h1]
  refine Ev.neg h1 ?_
  by_cases h2:i=2
  ·rw[if_pos h2]
   refine Ev.pos h2 ?_
   by_cases h6:r.f1=6
   ·exact Ev.pos h6 (Ev.const (by simp only[bs_,bneB_dec,h6,decide_true,Bool.true_and]))
   ·exact Ev.neg h6 (Ev.const (by simp[h6]))
  ·rw[if_neg h2]
   refine Ev.neg h2 ?_
   by_cases h3:i=3
   ·rw[if_pos h3]
    have hlen:=atR_len l r.f0 r.f1
    exact Ev.pos h3 (Ev.bind' _ (at_eq l r.f0 r.f1 hl) (Ev.bind' _ (aR_.any (atR l r.f0 r.f1) r.f0 r.f1 r.f2 r.f3 (q3 r) (by omega) (fun x _=>Ev.const (q3_eq r x))) (Ev.const rfl)))
   ·rw[if_neg h3]
    refine Ev.neg h3 ?_
    by_cases h4:i=4
    ·rw[if_pos h4]
     refine Ev.pos h4 ?_
     by_cases h5:r.f1=5
     ·refine Ev.pos h5 (Ev.bind' _ (at_eq l r.f0 0 hl) (Ev.const ?_))
      rw[show decide (((atR l r.f0 0).length:Int) > 1)=decide ((atR l r.f0 0).length > 1) from decide_eq_decide.mpr (by omega)]
      simp[h5]
     ·exact Ev.neg h5 (Ev.const (by simp[h5]))
    ·rw[if_neg h4]
     refine Ev.neg h4 ?_
     by_cases h5:i=5
     ·rw[if_pos h5]
      refine Ev.pos h5 ?_
      by_cases h6:r.f1=5
      ·exact Ev.pos h6 (Ev.const (by simp only[bs_,beq_dec',h6,decide_true,Bool.true_and]))
      ·exact Ev.neg h6 (Ev.const (by simp[h6]))
     ·rw[if_neg h5]
      exact Ev.neg h5 (Ev.bind' _ (aP_.any l apex r.f0 r.f1 r.f2 r.f3 (q6 apex r) hl (fun c hc=>Ev.const (q6_eq apex r c hr (hs c hc)))) (Ev.const rfl))
theorem brkAny_eq (i:Int):Ev (fun k=>aE_.f k l apex l i) (l.any (brk apex l i)):=by
 refine aE_.any l apex l i (brk apex l i) hl (fun x hx=>?_)
 unfold impl_RuleOf_1.f
 exact Ev.bind' _ (brk_eq apex l ha hl hs x (hs x hx) i) (Ev.const rfl)
def ruleI (apex:ByteArray) (l:List aa_):Int :=
 if l.any (brk apex l 1)=true then 1 else if l.any (brk apex l 2)=true then 2 else if (atR l apex 6).length≠1 then 2 else if l.any (brk apex l 3)=true then 3
 else if l.any (brk apex l 4)=true then 4 else if l.any (brk apex l 5)=true then 5 else if l.any (brk apex l 6)=true then 6 else 0
theorem implRule_loop:Ev (fun k=>bL_.l0 k apex l 1) (ruleI apex l):=by
 have step:∀(i:Int) (q:Int),1≤i→i≤6→i≠2→(l.any (brk apex l i)=false→Ev (fun k=>bL_.l0 k apex l (i+1)) q)→Ev (fun k=>bL_.l0 k apex l i) (if l.any (brk apex l i)=true then i else q):=by
  intro i q h1 h2 h3 h
  apply Ev.succ
  simp only[bL_.l0]
  rw[w64 (i:=i+1) (by omega) (by omega)]
  refine Ev.pos h2 (Ev.bind' _ (brkAny_eq apex l ha hl hs i) ?_)
  cases hb:l.any (brk apex l i) with
  | true=>exact Ev.aK_ (Ev.const rfl)
  | false=>exact Ev.aG_ (Ev.neg h3 (Ev.eq_ (h hb) (by simp)))
 have last:Ev (fun k=>bL_.l0 k apex l 7) 0:=by
  apply Ev.succ
  simp only[bL_.l0]
  exact Ev.neg (by omega) (Ev.const rfl)
 have step2:∀(q:Int),Ev (fun k=>bL_.l0 k apex l 3) q→Ev (fun k=>bL_.l0 k apex l 2) (if l.any (brk apex l 2)=true then 2 else if (atR l apex 6).length≠1 then 2 else q):=by
  intro q h
  have hw:wrap64 ((2:Int)+1)=3:=by rw[w64 (by omega) (by omega)];rfl
  apply Ev.succ
  simp only[bL_.l0,hw]
  refine Ev.pos (by omega) (Ev.bind' _ (brkAny_eq apex l ha hl hs 2) ?_)
  cases hb:l.any (brk apex l 2) with
  | true=>exact Ev.aK_ (Ev.const rfl)
  | false =>
   refine Ev.aG_ (Ev.pos (by first|rfl|trivial) (Ev.bind' _ (at_eq l apex 6 hl) ?_))
   by_cases h6:(atR l apex 6).length=1
   ·refine Ev.pos (by omega) (Ev.eq_ h ?_)
    simp[h6]
   ·refine Ev.neg (by omega) (Ev.const ?_)
    simp[h6]
 unfold ruleI
 exact step 1 _ (by omega) (by omega) (by omega) (fun _=>step2 _ (step 3 _ (by omega) (by omega) (by omega) (fun _=>step 4 _ (by omega) (by omega) (by omega) (fun _=>step 5 _ (by omega) (by omega) (by omega) (fun _=>step 6 _ (by omega) (by omega) (by omega) (fun _=>last))))))
theorem implRuleOf_eq:Ev (fun k=>bL_.f k apex l) (if (apexOk apex&&decide (l.length≤40)&&rises l)=true then ruleI apex l else 9):=by
 unfold bL_.f
 have hw:Ev (fun k=>impl_isWhole.f k apex l) (apexOk apex&&decide (l.length≤40)&&rises l):=by
  unfold impl_isWhole.f
  refine Ev.bind' _ (implApex_eq apex ha) ?_
  cases apexOk apex with
  | false=>exact Ev.aG_ (Ev.const (by simp))
  | true =>
   refine Ev.aK_ ?_
   by_cases h40:(l.length:Int)≤40
   ·have h40':l.length≤40:=by omega
    exact Ev.pos h40 (Ev.bind' _ (areRising_eq l hl hs) (Ev.const (by simp[h40'])))
   ·have h40':¬l.length≤40:=by omega
    exact Ev.neg h40 (Ev.const (by simp[h40']))
 refine Ev.bind' _ hw ?_
 cases(apexOk apex&&decide (l.length≤40)&&rises l) with
 | true=>exact Ev.aK_ (Ev.eq_ (implRule_loop apex l ha hl hs) (by simp))
 | false=>exact Ev.aG_ (Ev.const (by simp))
end
end
theorem pw_all {α:Type} {R:α→α→Prop} (hsym:∀a b,R a b→R b a) (hrf:∀a,R a a):∀(l:List α),l.Pairwise R→∀x∈l,∀y∈l,R x y
 | [],_,x,hx,_,_=>by cases hx
 | a::t,h,x,hx,y,hy=>by
  obtain⟨h1,h2⟩:=List.pairwise_cons.mp h
  rcases List.mem_cons.mp hx with e1|hx1
  ·rcases List.mem_cons.mp hy with e2|hy1
   ·rw[e1,e2];exact hrf _
   ·rw[e1];exact h1 y hy1
  ·rcases List.mem_cons.mp hy with e2|hy1
   ·rw[e2];exact hsym _ _ (h1 x hx1)
   ·exact pw_all hsym hrf t h2 x hx1 y hy1
theorem soa_split (apex:ByteArray) (l:List aa_):soaN apex l=(atR l apex 6).length+2 * (l.filter (brk apex l 2)).length:=by
 have hq:(brk apex l 2)=fun r=>decide (r.f1=6) && !decide (bts r.f0=bts apex):=by
  funext r
  unfold brk
  rw[if_neg (by omega),if_pos rfl]
 rw[hq]
 clear hq
 induction l with
 | nil=>simp[soaN,atR]
 | cons r t ih =>
  simp only[soaN,ih]
  unfold atR soa1
  by_cases h1:r.f1=6
  ·by_cases h2:bts r.f0=bts apex
   ·rw[List.filter_cons_of_pos (by simp[h1,h2]),List.filter_cons_of_neg (by simp[h1,h2]),if_pos h1,if_pos h2]
    simp only[List.length_cons]
    omega
   ·rw[List.filter_cons_of_neg (by simp[h1,h2]),List.filter_cons_of_pos (by simp[h1,h2]),if_pos h1,if_neg h2]
    simp only[List.length_cons]
    omega
  ·rw[List.filter_cons_of_neg (by simp[h1]),List.filter_cons_of_neg (by simp[h1]),if_neg h1]
   omega
theorem any_filter {α:Type} (q:α→Bool) (l:List α):l.any q=false↔(l.filter q).length=0:=by
 rw[List.length_eq_zero_iff,List.filter_eq_nil_iff,List.any_eq_false]
theorem adj3_false:∀(t:List aa_) (a:aa_),adj3 (some a) t=false→(a::t).Pairwise (fun x y=>cmpRec x y<0)→(∀x∈t,cmpK a x=0→a.f2=x.f2)∧t.Pairwise (fun x y=>cmpK x y=0→x.f2=y.f2)
 | [],a,_,_=>by simp
 | b::u,a,h,hp=>by
  obtain⟨p1,p2⟩:=List.pairwise_cons.mp hp
  obtain⟨p3,p4⟩:=List.pairwise_cons.mp p2
  have hq:adj3 (some a) (b::u)=(bad3 a b||adj3 (some b) u):=rfl
  rw[hq,Bool.or_eq_false_iff] at h
  obtain⟨h1,h2⟩:=h
  obtain⟨i1,i2⟩:=adj3_false u b h2 p2
  have hab:cmpK a b=0→a.f2=b.f2:=by
   intro hk
   obtain⟨k1,k2⟩:=cmpK_zero.mp hk
   unfold bad3 at h1
   by_cases h3:a.f2=b.f2
   ·exact h3
   ·simp[k1,k2,h3] at h1
  refine⟨?_,List.pairwise_cons.mpr ⟨i1,i2⟩⟩
  intro x hx hk
  rcases List.mem_cons.mp hx with rfl|hx
  ·exact hab hk
  ·have k1:=cmpRec_key (Int.le_of_lt (p1 b (by simp)))
   have k2:=cmpRec_key (Int.le_of_lt (p3 x hx))
   have k3:cmpK a b=0:=by
    by_cases h5:cmpK a b=0
    ·exact h5
    ·have:=cmpK_cmp.lt_le (a:=a) (b:=b) (d:=x) (by omega) k2
     omega
   have k4:cmpK b x=0:=by
    by_cases h5:cmpK b x=0
    ·exact h5
    ·have:=cmpK_cmp.le_lt (a:=a) (b:=b) (d:=x) (by omega) (by omega)
     omega
   rw[hab k3,i1 x hx k4]
theorem adj3_true:∀(t:List aa_) (a:aa_),adj3 (some a) t=true→(a::t).Pairwise (fun x y=>cmpRec x y<0)→∃u v,u∈a::t∧v∈a::t∧bad3 u v=true∧cmpRec u v<0
 | [],a,h,_=>by cases h
 | b::u,a,h,hp=>by
  obtain⟨p1,p2⟩:=List.pairwise_cons.mp hp
  have hq:adj3 (some a) (b::u)=(bad3 a b||adj3 (some b) u):=rfl
  rw[hq,Bool.or_eq_true] at h
  rcases h with h|h
  ·exact⟨a,b,by simp,by simp,h,p1 b (by simp)⟩
  ·obtain⟨x,y,hx,hy,h1,h2⟩:=adj3_true u b h p2
   exact⟨x,y,List.mem_cons_of_mem _ hx,List.mem_cons_of_mem _ hy,h1,h2⟩
theorem brk3_at (apex:ByteArray) (l:List aa_) (r:aa_):brk apex l 3 r=(atR l r.f0 r.f1).any (q3 r):=by
 unfold brk
 rw[if_neg (by omega),if_neg (by omega),if_pos rfl]
theorem brk4_at (apex:ByteArray) (l:List aa_) (r:aa_):brk apex l 4 r=(decide (r.f1=5)&&decide ((atR l r.f0 0).length > 1)):=by
 unfold brk
 rw[if_neg (by omega),if_neg (by omega),if_neg (by omega),if_pos rfl]
theorem brk6_at (apex:ByteArray) (l:List aa_) (r:aa_):brk apex l 6 r=l.any (q6 apex r):=by
 unfold brk
 rw[if_neg (by omega),if_neg (by omega),if_neg (by omega),if_neg (by omega),if_neg (by omega)]
theorem mem_atR {l:List aa_} {s:ByteArray} {k:Int} {x:aa_}:x∈atR l s k↔x∈l∧bts x.f0=bts s∧(k=0∨x.f1=k):=by
 unfold atR
 rw[List.mem_filter]
 simp only[Bool.and_eq_true,decide_eq_true_eq,Bool.or_eq_true]
theorem okR_type {r:aa_} (h:okR r=true):r.f1=1∨r.f1=2∨r.f1=5∨r.f1=6∨r.f1=15∨r.f1=16:=by
 have h1:=okR_data h
 unfold dataOk at h1
 by_cases e1:r.f1=1
 ·exact Or.inl e1
 ·rw[if_neg e1] at h1
  by_cases e2:r.f1=2∨r.f1=5
  ·omega
  ·rw[if_neg e2] at h1
   by_cases e3:r.f1=6
   ·omega
   ·rw[if_neg e3] at h1
    by_cases e4:r.f1=15
    ·omega
    ·rw[if_neg e4] at h1
     by_cases e5:r.f1=16
     ·omega
     ·rw[if_neg e5] at h1
      cases h1
theorem rule3_same (apex:ByteArray) (l:List aa_) (hp:l.Pairwise (fun x y=>cmpRec x y<0)) (hok:∀r∈l,okR r=true):l.any (brk apex l 3)=adj3 none l:=by
 have two:adj3 none l=false→∀x∈l,∀y∈l,cmpK x y=0→x.f2=y.f2:=by
  intro h
  refine pw_all (R:=fun x y=>cmpK x y=0→x.f2=y.f2) (fun a b h1 h2=>(h1 (by have:=cmpK_cmp.anti a b;omega)).symm) (fun _ _=>rfl) l ?_
  cases l with
  | nil=>exact List.Pairwise.nil
  | cons a t =>
   obtain⟨i1,i2⟩:=adj3_false t a h hp
   exact List.pairwise_cons.mpr ⟨i1,i2⟩
 cases hA:adj3 none l with
 | false =>
  rw[List.any_eq_false]
  intro r hr hb
  rw[brk3_at,List.any_eq_true] at hb
  obtain⟨x,hx,hq⟩:=hb
  obtain⟨m1,m2,m3⟩:=mem_atR.mp hx
  have h1:x.f1=r.f1:=by
   have:=okR_type (hok r hr)
   rcases m3 with h0|h1
   ·omega
   ·exact h1
  have h2:=two hA r hr x m1 (cmpK_zero.mpr ⟨m2.symm,h1.symm⟩)
  unfold q3 eqR4 at hq
  simp[h1,h2,m2] at hq
 | true =>
  rw[List.any_eq_true]
  cases l with
  | nil=>cases hA
  | cons a t =>
   obtain⟨u,v,hu,hv,h1,h2⟩:=adj3_true t a hA hp
   unfold bad3 at h1
   simp only[Bool.and_eq_true,decide_eq_true_eq,Bool.or_eq_true,Bool.not_eq_true',decide_eq_false_iff_not] at h1
   obtain⟨⟨h3,h4⟩,h5⟩:=h1
   have h6:u.f2≠v.f2:=by
    intro h7
    rcases h5 with h5|h5
    ·exact h5 h7
    ·have e1:=bts_inj h3
     have e2:=bts_inj h5
     have:u=v:=by
      cases u;cases v
      simp only at e1 e2 h4 h7
      subst e1 e2 h4 h7
      rfl
     rw[this] at h2
     have:=cmpRec_cmp.self v
     omega
   refine⟨u,hu,?_⟩
   rw[brk3_at,List.any_eq_true]
   refine⟨v,mem_atR.mpr ⟨hv,h3.symm,Or.inr h4.symm⟩,?_⟩
   unfold q3
   have:¬v.f2=u.f2:=fun h=>h6 h.symm
   simp[this]
theorem pair4_iff:∀(t p:List aa_),pair4 p t=true↔∃u x v,t=u++x::v∧(p++u).any (fun o=>bad4 o x)=true
 | [],p=>by
  have:pair4 p []=false:=by cases p<;>rfl
  rw[this]
  constructor
  ·intro h;cases h
  ·rintro⟨u,x,v,h,_⟩
   have:=congrArg List.length h
   simp at this
 | y::t,p=>by
  have hq:pair4 p (y::t)=(p.any (fun o=>bad4 o y)||pair4 (p++[y]) t):=by cases p<;>rfl
  rw[hq,Bool.or_eq_true,pair4_iff t (p++[y])]
  constructor
  ·rintro(h|⟨u,x,v,h1,h2⟩)
   ·exact⟨[],y,t,rfl,by simpa using h⟩
   ·exact⟨y::u,x,v,by rw[h1];rfl,by simpa using h2⟩
  ·rintro⟨u,x,v,h1,h2⟩
   cases u with
   | nil =>
    simp only[List.nil_append,List.cons.injEq] at h1
    obtain⟨rfl,rfl⟩:=h1
    exact Or.inl (by simpa using h2)
   | cons z u =>
    simp only[List.cons_append,List.cons.injEq] at h1
    obtain⟨rfl,rfl⟩:=h1
    exact Or.inr ⟨u,x,v,rfl,by simpa using h2⟩
theorem at0_len (s:ByteArray) (p:List aa_) (r:aa_) (t:List aa_) (h:bts r.f0=bts s):(atR (p++r::t) s 0).length=(atR p s 0).length+((atR t s 0).length+1):=by
 unfold atR
 rw[List.filter_append,List.filter_cons_of_pos (by simp[h]),List.length_append,List.length_cons]
theorem rule4_same (apex:ByteArray) (l:List aa_):l.any (brk apex l 4)=pair4 [] l:=by
 rw[Bool.eq_iff_iff,List.any_eq_true,pair4_iff]
 constructor
 ·rintro⟨r,hr,hb⟩
  rw[brk4_at] at hb
  simp only[Bool.and_eq_true,decide_eq_true_eq] at hb
  obtain⟨h5,hlen⟩:=hb
  obtain⟨p,t,e⟩:=List.append_of_mem hr
  have hl:(atR l r.f0 0).length=(atR p r.f0 0).length+((atR t r.f0 0).length+1):=by rw[e];exact at0_len _ _ _ _ rfl
  by_cases hp:0<(atR p r.f0 0).length
  ·obtain⟨o,ho⟩:=List.length_pos_iff_exists_mem.mp hp
   obtain⟨m1,m2,_⟩:=mem_atR.mp ho
   refine⟨p,r,t,e,?_⟩
   rw[List.nil_append,List.any_eq_true]
   exact⟨o,m1,by unfold bad4;simp[m2,h5]⟩
  ·have ht:0<(atR t r.f0 0).length:=by omega
   obtain⟨x,hx⟩:=List.length_pos_iff_exists_mem.mp ht
   obtain⟨m1,m2,_⟩:=mem_atR.mp hx
   obtain⟨u,v,e2⟩:=List.append_of_mem m1
   refine⟨p++r::u,x,v,by rw[e,e2];simp,?_⟩
   rw[List.nil_append,List.any_eq_true]
   exact⟨r,by simp,by unfold bad4;simp[m2,h5]⟩
 ·rintro⟨u,x,v,e,h⟩
  rw[List.nil_append,List.any_eq_true] at h
  obtain⟨o,ho,hb⟩:=h
  unfold bad4 at hb
  simp only[Bool.and_eq_true,decide_eq_true_eq,Bool.or_eq_true] at hb
  obtain⟨hn,h5⟩:=hb
  obtain⟨a,b,e2⟩:=List.append_of_mem ho
  have hpx:0<(atR u x.f0 0).length:=List.length_pos_iff_exists_mem.mpr ⟨o,mem_atR.mpr ⟨ho,hn,Or.inl rfl⟩⟩
  have hlx:(atR l x.f0 0).length=(atR u x.f0 0).length+((atR v x.f0 0).length+1):=by rw[e];exact at0_len _ _ _ _ rfl
  rcases h5 with h5|h5
  ·refine⟨o,by rw[e];simp[ho],?_⟩
   rw[brk4_at]
   have hso:atR l o.f0 0=atR l x.f0 0:=by unfold atR;rw[hn]
   rw[hso]
   simp[h5]
   omega
  ·refine⟨x,by rw[e];simp,?_⟩
   rw[brk4_at]
   simp[h5]
   omega
theorem rule6_same (apex:ByteArray) (l:List aa_) (hb:∀r∈l,belowN r.f0 apex=true):l.any (brk apex l 6)=l.any (bad6 apex l):=by
 have main:∀r∈l,brk apex l 6 r=bad6 apex l r:=by
  intro r hr
  have hu:=ups_mem apex (r.f0.size+1) r.f0
  have hmem:=fun c=>hu c (by omega) (hb r hr)
  rw[brk6_at,Bool.eq_iff_iff,List.any_eq_true]
  constructor
  ·rintro⟨c,hc,hq⟩
   unfold q6 at hq
   simp only[Bool.and_eq_true,decide_eq_true_eq,Bool.not_eq_true',decide_eq_false_iff_not,Bool.and_eq_false_iff] at hq
   obtain⟨⟨⟨⟨h1,h2⟩,h3⟩,h4⟩,h5⟩:=hq
   have hin:=(hmem c.f0).mpr ⟨h3,hb c hc,h2⟩
   have hT:hasT l c.f0 2=true:=by
    unfold hasT
    rw[List.any_eq_true]
    exact⟨c,hc,by simp[h1]⟩
   have hhas:(cutOf apex l r.f0).2=true:=by
    unfold cutOf
    rw[cutSt_has,Bool.false_or,List.any_eq_true]
    exact⟨c.f0,hin,hT⟩
   unfold bad6
   rw[hhas]
   by_cases h6:r.f1=2
   ·have h7:¬bts r.f0=bts c.f0:=h5.resolve_left (fun h=>h h6)
    have hne:¬bts r.f0=bts apex:=by
     intro h8
     have e8:=bts_inj h8
     rw[e8] at h3
     exact h2 (below_antisymm (hb c hc) h3)
    have hups:ups apex (r.f0.size+1) r.f0=r.f0::ups apex r.f0.size (parentN r.f0):=by
     rw[show ups apex (r.f0.size+1) r.f0=if bts r.f0=bts apex then [] else r.f0::ups apex r.f0.size (parentN r.f0) from rfl,if_neg hne]
    have hin2:c.f0∈ups apex r.f0.size (parentN r.f0):=by
     rw[hups] at hin
     rcases List.mem_cons.mp hin with h|h
     ·exact absurd (by rw[h]) h7
     ·exact h
    have hcut:¬bts r.f0=bts (cutOf apex l r.f0).1:=by
     intro h8
     unfold cutOf at h8
     rw[hups] at h8
     have hstep:cutSt l ((⟨#[]⟩:ByteArray),false) (r.f0::ups apex r.f0.size (parentN r.f0))=cutSt l (cutStep l ((⟨#[]⟩:ByteArray),false) r.f0) (ups apex r.f0.size (parentN r.f0)):=rfl
     rw[hstep] at h8
     rcases cutSt_mem l (ups apex r.f0.size (parentN r.f0)) (cutStep l ((⟨#[]⟩:ByteArray),false) r.f0) with ⟨_,h9⟩|⟨h9,_⟩
     ·rw[List.any_eq_false] at h9
      exact h9 _ hin2 hT
     ·have h10:=ups_size apex _ _ _ h9
      have h11:=parent_lt (below_parent (hb r hr) hne).1
      have h12:=bts_inj h8
      rw[←h12] at h10
      omega
    simp[h4,hcut]
   ·simp[h4,h6]
  ·intro hq
   unfold bad6 at hq
   simp only[Bool.and_eq_true,decide_eq_true_eq,Bool.not_eq_true',decide_eq_false_iff_not,Bool.or_eq_true] at hq
   obtain⟨⟨h1,h2⟩,h3⟩:=hq
   unfold cutOf at h1 h3
   rcases cutSt_mem l (ups apex (r.f0.size+1) r.f0) ((⟨#[]⟩:ByteArray),false) with ⟨h4,_⟩|⟨h4,h5⟩
   ·rw[h4] at h1
    cases h1
   ·obtain⟨m1,m2,m3⟩:=(hmem _).mp h4
    unfold hasT at h5
    rw[List.any_eq_true] at h5
    obtain⟨c,hc,hq⟩:=h5
    simp only[Bool.and_eq_true,decide_eq_true_eq] at hq
    have hce:=bts_inj hq.1
    refine⟨c,hc,?_⟩
    unfold q6
    rw[hce,m1]
    simp only[hq.2,decide_true,Bool.true_and,Bool.and_true,Bool.and_eq_true,Bool.not_eq_true',decide_eq_false_iff_not,Bool.and_eq_false_iff]
    exact⟨⟨m3,h2⟩,h3⟩
 rw[Bool.eq_iff_iff,List.any_eq_true,List.any_eq_true]
 constructor
 ·rintro⟨r,hr,h⟩
  exact⟨r,hr,by rw[←main r hr];exact h⟩
 ·rintro⟨r,hr,h⟩
  exact⟨r,hr,by rw[main r hr];exact h⟩
theorem rule_same (apex:ByteArray) (l:List aa_) (hr:rises l=true):ruleI apex l=ruleN apex l:=by
 obtain⟨hp,hok⟩:=rises_all hr
 have h1:brk apex l 1=fun r => !belowN r.f0 apex:=by
  funext r
  unfold brk
  rw[if_pos rfl]
 have h5:l.any (brk apex l 5)=hasT l apex 5:=by
  unfold hasT
  congr 1
  funext r
  unfold brk
  rw[if_neg (by omega),if_neg (by omega),if_neg (by omega),if_neg (by omega),if_pos rfl,Bool.and_comm]
 unfold ruleI ruleN
 rw[h1]
 by_cases hb:l.any (fun r => !belowN r.f0 apex)=true
 ·rw[if_pos hb,if_pos hb]
 ·rw[if_neg hb,if_neg hb]
  have hb':∀r∈l,belowN r.f0 apex=true:=by
   intro r hr
   cases hx:belowN r.f0 apex with
   | true=>rfl
   | false=>exact absurd (List.any_eq_true.mpr ⟨r,hr,by simp[hx]⟩) hb
  have hs:=soa_split apex l
  by_cases h2:l.any (brk apex l 2)=true
  ·rw[if_pos h2]
   have:¬(l.filter (brk apex l 2)).length=0:=fun h=>by
    rw[(any_filter _ _).mpr h] at h2
    cases h2
   rw[if_neg (show ¬soaN apex l=1 by omega)]
  ·rw[if_neg h2]
   have hz:=(any_filter (brk apex l 2) l).mp (by simpa using h2)
   by_cases h6:(atR l apex 6).length=1
   ·rw[if_neg (show ¬(atR l apex 6).length≠1 by omega),if_pos (show soaN apex l=1 by omega),rule3_same apex l hp hok,rule4_same,h5,rule6_same apex l hb']
    rfl
   ·rw[if_pos h6,if_neg (show ¬soaN apex l=1 by omega)]
section
def soaT (c:Int):List UInt8:=Go.Lib.itoa (Int.tmod c 4294967296)
theorem num_step (n:Int) (h0:0≤n) (h1:n<10):strOfNums [(wrap64 (48+n)) % 256]=⟨([UInt8.ofNat (48+n.toNat)]:List UInt8).toArray⟩:=by
 rw[w64 (by omega) (by omega)]
 apply bts_inj
 rw[ci_]
 show([(48+n) % 256]:List Int).map (fun n=>UInt8.ofNat n.toNat)=_
 simp only[List.map_cons,List.map_nil]
 congr 2
 omega
theorem l1Num_eq:∀(m:Nat) (n:Int),n.toNat≤m→0≤n→n≤9223372036854775807→Ev (fun k=>cc_.f k n) ⟨(Go.Lib.decDigits n.toNat).toArray⟩∧(Go.Lib.decDigits n.toNat).length≤n.toNat+1
 | 0,n,hm,h0,h1=>by
  have:n=0:=by omega
  subst this
  have hd:Go.Lib.decDigits (0:Int).toNat=[UInt8.ofNat 48]:=Go.Lib.decDigits_one (by decide)
  refine⟨Ev.succ ?_,by rw[hd];simp⟩
  simp only[cc_.f]
  refine Ev.pos (by omega) (Ev.const ?_)
  rw[num_step 0 (by omega) (by omega),hd]
  rfl
 | m+1,n,hm,h0,h1=>by
  by_cases h:n<10
  ·have hd:Go.Lib.decDigits n.toNat=[UInt8.ofNat (48+n.toNat)]:=Go.Lib.decDigits_one (by omega)
   refine⟨Ev.succ ?_,by rw[hd];simp⟩
   simp only[cc_.f]
   refine Ev.pos h (Ev.const ?_)
   rw[num_step n h0 h,hd]
  ·have hd:Go.Lib.decDigits n.toNat=Go.Lib.decDigits (n.toNat / 10)++[UInt8.ofNat (48+n.toNat % 10)]:=by
    conv=>lhs;rw[Go.Lib.decDigits]
    rw[dif_neg (by omega)]
   have e1:Int.tdiv n 10=n / 10:=Int.tdiv_eq_ediv_of_nonneg h0
   have e2:Int.tmod n 10=n % 10:=Int.tmod_eq_emod_of_nonneg h0
   have e3:(n / 10).toNat=n.toNat / 10:=by omega
   have e4:(n % 10).toNat=n.toNat % 10:=by omega
   obtain⟨i1,i2⟩:=l1Num_eq m (n / 10) (by omega) (by omega) (by omega)
   rw[e3] at i1 i2
   refine⟨Ev.succ ?_,by rw[hd];simp;omega⟩
   simp only[cc_.f]
   have hs1:strOfNums [(wrap64 (48+n % 10)) % 256]=⟨([UInt8.ofNat (48+n.toNat % 10)]:List UInt8).toArray⟩:=by
    rw[num_step (n % 10) (by omega) (by omega),e4]
   rw[e1,e2,w64 (i:=n / 10) (by omega) (by omega)]
   refine Ev.neg h (Ev.bind' _ i1 (Ev.cbind _ rfl (Ev.pos ?_ (Ev.const ?_))))
   ·rw[hs1,bq_,ci_,bq_,ci_]
    simp only[List.length_cons,List.length_nil]
    omega
   ·rw[hs1,hd,Option.some.injEq]
    apply bts_inj
    unfold bts
    rw[ByteArray.data_append]
    simp
theorem soa_range (c:Int) (h0:0≤c):0≤Int.tmod c 4294967296∧Int.tmod c 4294967296<4294967296:=by
 rw[Int.tmod_eq_emod_of_nonneg h0]
 omega
theorem soaT_dec (c:Int) (h0:0≤c):soaT c=Go.Lib.decDigits (Int.tmod c 4294967296).toNat:=by
 have:=soa_range c h0
 unfold soaT Go.Lib.itoa
 rw[if_neg (by omega)]
theorem l6Soa_eq (a:ByteArray) (c:Int) (l:List aa_) (h0:0≤c):Ev (fun k=>spec_l6Soa.f k a c l) ⟨(soaT c).toArray⟩:=by
 have:=soa_range c h0
 unfold spec_l6Soa.f
 rw[soaT_dec c h0]
 exact Ev.bind' _ (l1Num_eq _ _ (Nat.le_refl _) (by omega) (by omega)).1 (Ev.const rfl)
theorem serial_eq (c:Int) (h0:0≤c):impl_serialText.f c=some ⟨(soaT c).toArray⟩:=by
 have:=soa_range c h0
 unfold impl_serialText.f strconv_Itoa.f
 rw[if_pos (by omega)]
 rfl
def zoneOk (apex:ByteArray) (c:Int) (l:List aa_):Bool:=inR c 0 1152921504606846976&&(apexOk apex&&decide (l.length≤40)&&rises l)&&decide (ruleN apex l=0)&&l.all (fun r => !decide (r.f1=6)||decide (bts r.f3=soaT c))
theorem inR_lo {c a b:Int} (h:inR c a b=true):a≤c∧c≤b:=by
 unfold inR at h
 exact of_decide_eq_true h
section
variable (apex:ByteArray) (c:Int) (l:List aa_) (ha:apex.size≤1048576) (hl:l.length≤1048576) (hs:∀r∈l,szR r)
include ha hl hs
theorem specRuleOf_eq:Ev (fun k=>spec_RuleOf.f k apex l) (if (apexOk apex&&decide (l.length≤40)&&rises l)=true then ruleN apex l else 9):=by
 unfold spec_RuleOf.f
 refine Ev.bind' _ (specApex_eq apex ha) ?_
 cases apexOk apex with
 | false=>exact Ev.aG_ (Ev.const (by simp))
 | true =>
  refine Ev.aK_ (Ev.bind' _ (specList_eq l hl hs) ?_)
  cases hr:rises l with
  | false=>exact Ev.aG_ (Ev.const (by simp))
  | true =>
   by_cases h40:l.length≤40
   ·rw[decide_eq_true h40]
    exact Ev.aK_ (Ev.bind' _ (specRule_eq apex l ha hl hs) (Ev.const (by simp)))
   ·rw[decide_eq_false h40]
    exact Ev.aG_ (Ev.const (by simp))
theorem implRuleOf_same:Ev (fun k=>bL_.f k apex l) (if (apexOk apex&&decide (l.length≤40)&&rises l)=true then ruleN apex l else 9):=by
 refine Ev.eq_ (implRuleOf_eq apex l ha hl hs) ?_
 by_cases h:(apexOk apex&&decide (l.length≤40)&&rises l)=true
 ·rw[if_pos h,if_pos h]
  simp only[Bool.and_eq_true] at h
  exact rule_same apex l h.2
 ·rw[if_neg h,if_neg h]
theorem specZone_eq:Ev (fun k=>aJ_.f k apex c l) (zoneOk apex c l):=by
 unfold aJ_.f zoneOk
 have bad:Ev (fun k=>aJ_.j0 k true apex c l) false:=by
  apply Ev.succ
  simp only[aJ_.j0]
  exact Ev.pos (by first|rfl|trivial) (Ev.const rfl)
 refine Ev.cbind _ (l1In_eq _ _ _) ?_
 cases hc:inR c 0 1152921504606846976 with
 | false=>exact Ev.aG_ (Ev.eq_ bad (by simp))
 | true =>
  have hc0:=inR_lo hc
  refine Ev.aK_ (Ev.bind' _ (specRuleOf_eq apex l ha hl hs) ?_)
  by_cases hw:(apexOk apex&&decide (l.length≤40)&&rises l)=true
  ·rw[if_pos hw,hw]
   by_cases h0:ruleN apex l=0
   ·rw[h0]
    apply Ev.succ
    simp only[aJ_.j0]
    refine Ev.neg (by simp) ?_
    refine Ev.eq_ (a4_ l (fun k (_:Unit) i=>aJ_.l0 k l (l.length:Int) i apex c l) (fun _ t=>t.all (fun r => !decide (r.f1=6)||decide (bts r.f3=soaT c))) (fun _ _=>True) ?_ ?_ () trivial) (by simp)
    ·intro _ _
     apply Ev.succ
     simp only[aJ_.l0]
     exact Ev.neg (by omega) (Ev.const (by simp))
    ·intro p x t _ e _ ih
     have hm:=bc_ e
     apply Ev.succ
     simp only[aJ_.l0,a_,bt_ e,bs_]
     rw[w64 (i:=(p.length:Int)+1) (by omega) (by omega)]
     refine Ev.pos hm.1 (Ev.pos (by omega) (Ev.pos hm.1 ?_))
     by_cases h6:x.f1=6
     ·refine Ev.pos h6 (Ev.bind' _ (l6Soa_eq apex c l hc0.1) ?_)
      rw[ci_]
      by_cases h7:bts x.f3=soaT c
      ·exact Ev.pos h7 (Ev.eq_ (ih () trivial) (by simp[h7]))
      ·exact Ev.neg h7 (Ev.const (by simp[h6,h7]))
     ·exact Ev.neg h6 (Ev.eq_ (ih () trivial) (by simp[h6]))
   ·have hb:(ruleN apex l != 0)=true:=bne_iff_ne.mpr h0
    rw[hb]
    exact Ev.eq_ bad (by simp[h0])
  ·rw[if_neg hw]
   have hf:(apexOk apex&&decide (l.length≤40)&&rises l)=false:=by simpa using hw
   rw[hf]
   exact Ev.eq_ bad (by simp)
theorem implZone_eq:Ev (fun k=>bf_.f k apex c l) (zoneOk apex c l):=by
 unfold bf_.f zoneOk
 have hcn:bd_.f c=some (inR c 0 1152921504606846976):=by
  unfold bd_.f
  rw[within_eq]
  rfl
 refine Ev.cbind _ hcn ?_
 cases hc:inR c 0 1152921504606846976 with
 | false=>exact Ev.aG_ (Ev.const (by simp))
 | true =>
  have hc0:=inR_lo hc
  refine Ev.aK_ (Ev.bind' _ (implRuleOf_same apex l ha hl hs) ?_)
  by_cases hw:(apexOk apex&&decide (l.length≤40)&&rises l)=true
  ·rw[if_pos hw,hw]
   by_cases h0:ruleN apex l=0
   ·refine Ev.pos h0 (Ev.bind' _ (at_eq l apex 6 hl) ?_)
    have hso:l.any (fun r => !belowN r.f0 apex)=false∧soaN apex l=1:=by
     unfold ruleN at h0
     by_cases h1:l.any (fun r => !belowN r.f0 apex)=true
     ·rw[if_pos h1] at h0;omega
     ·rw[if_neg h1] at h0
      by_cases h2:soaN apex l=1
      ·exact⟨by simpa using h1,h2⟩
      ·rw[if_neg h2] at h0;omega
    have hsp:=soa_split apex l
    have hat:(atR l apex 6).length=1:=by omega
    have hno:=(any_filter (brk apex l 2) l).mpr (by omega)
    obtain⟨z,hz⟩:∃z,atR l apex 6=[z]:=List.length_eq_one_iff.mp hat
    rw[hz]
    refine Ev.pos (by simp) (Ev.cbind _ (serial_eq c hc0.1) (Ev.const ?_))
    have hzm:z∈atR l apex 6:=by rw[hz];simp
    obtain⟨z1,z2,z3⟩:=mem_atR.mp hzm
    have z4:z.f1=6:=by rcases z3 with h|h;omega;exact h
    have hr0:a_ [z] 0=z:=rfl
    rw[hr0,bs_,bs_,ci_,beq_dec',decide_eq_true h0,Option.some.injEq,Bool.eq_iff_iff]
    simp only[Bool.true_and,Bool.and_true,List.all_eq_true,Bool.or_eq_true,Bool.not_eq_true',decide_eq_false_iff_not,decide_eq_true_eq]
    constructor
    ·intro h r hr
     by_cases h6:r.f1=6
     ·right
      have hra:bts r.f0=bts apex:=by
       rw[List.any_eq_false] at hno
       have:=hno r hr
       unfold brk at this
       rw[if_neg (by omega),if_pos rfl] at this
       simpa[h6] using this
      have:r∈atR l apex 6:=mem_atR.mpr ⟨hr,hra,Or.inr h6⟩
      rw[hz,List.mem_singleton] at this
      rw[this]
      exact h
     ·exact Or.inl h6
    ·intro h
     exact(h z z1).resolve_left (fun h=>h z4)
   ·exact Ev.neg h0 (Ev.const (by simp[h0]))
  ·rw[if_neg hw]
   have hf:(apexOk apex&&decide (l.length≤40)&&rises l)=false:=by simpa using hw
   rw[hf]
   exact Ev.neg (by omega) (Ev.const (by simp))
end
end
section
def applyOk (a:ByteArray) (c:Int) (l:List aa_) (f t:Int) (D A:List aa_):Prop:=zoneOk a c l=true∧goodD f t D A=true∧c=f∧(∀x∈D,hasR l x=true)∧(∀x∈A,hasR l x=false)
def ZBAD:ByteArray × Int × List aa_ × Bool:=((⟨#[]⟩:ByteArray),0,[],false)
open Classical in
noncomputable def applyZ (a:ByteArray) (c:Int) (l:List aa_) (f t:Int) (D A:List aa_):ByteArray × Int × List aa_ × Bool :=
 if applyOk a c l f t D A then(if zoneOk a t (bothR (lessR l D) A)=true then(a,t,bothR (lessR l D) A,true) else ZBAD) else ZBAD
theorem zoneOk_good {a:ByteArray} {c:Int} {l:List aa_} (h:zoneOk a c l=true) (s:∀r∈l,szR r):l.length≤40∧goodL l:=by
 simp only[zoneOk,Bool.and_eq_true,decide_eq_true_eq] at h
 obtain⟨⟨⟨h1,⟨h2,h3⟩,h4⟩,h5⟩,h6⟩:=h
 obtain⟨r1,r2⟩:=rises_all h4
 exact⟨h3,r1,fun x hx=>⟨r2 x hx,s x hx⟩⟩
theorem lessR_pos {D l:List aa_}:(0<(lessR D l).length)↔¬∀x∈D,hasR l x=true:=by
 unfold lessR
 rw[List.length_pos_iff_exists_mem]
 constructor
 ·rintro⟨x,hx⟩ h
  have:=List.mem_filter.1 hx
  rw[h x this.1] at this
  exact absurd this.2 (by simp)
 ·intro h
  rw[←List.length_pos_iff_exists_mem]
  rcases Nat.eq_zero_or_pos (D.filter (fun r => !hasR l r)).length with h0|h0
  ·exfalso
   refine h (fun x hx=>?_)
   cases hn:hasR l x with
   | true=>rfl
   | false =>
    have:x∈D.filter (fun r => !hasR l r):=List.mem_filter.2 ⟨hx,by simp[hn]⟩
    rw[List.length_eq_zero_iff.1 h0] at this
    cases this
  ·exact h0
theorem lessR_all:∀(A l:List aa_),(lessR A l).length<A.length↔¬∀x∈A,hasR l x=false
 | [],l=>by simp[lessR]
 | x::A,l=>by
  have ih:=lessR_all A l
  have hle:(lessR A l).length≤A.length:=lessR_len A l
  cases hx:hasR l x with
  | true =>
   have e:lessR (x::A) l=lessR A l:=by simp[lessR,hx]
   rw[e]
   simp only[List.length_cons]
   exact⟨fun _ h=>by have:=h x (by simp);rw[hx] at this;exact absurd this (by simp),fun _=>by omega⟩
  | false =>
   have e:lessR (x::A) l=x::lessR A l:=by simp[lessR,hx]
   rw[e]
   simp only[List.length_cons,List.forall_mem_cons,hx,true_and]
   rw[←ih]
   omega
section
variable (a:ByteArray) (c:Int) (l:List aa_) (f t:Int) (D A:List aa_) (ha:a.size≤1048576) (hl:l.length≤1048576) (hd:D.length≤1048576) (hA:A.length≤1048576) (sl:∀r∈l,szR r) (sd:∀r∈D,szR r) (sA:∀r∈A,szR r)
include ha hl hd hA sl sd sA
omit ha hd in
theorem apply_out (h:applyOk a c l f t D A):(bothR (lessR l D) A).length≤80∧goodL (bothR (lessR l D) A)∧l.length≤40∧A.length≤40∧goodL (lessR l D)∧goodL A:=by
 obtain⟨z1,z2⟩:=zoneOk_good h.1 sl
 obtain⟨_,g3,g4⟩:=goodD_good h.2.1 sd sA
 have n1:=bothR_len A (lessR l D)
 have n2:=lessR_len l D
 exact⟨by omega,bothR_good A _ (lessR_good D z2) g4.2,z1,g3,lessR_good D z2,g4⟩
theorem implApply_eq:Ev (fun k=>aD_.f k a c l f t D A) (applyZ a c l f t D A):=by
 have hbad:¬applyOk a c l f t D A→Ev (fun k=>aD_.j0 k true a c l f t D A) (applyZ a c l f t D A):=fun h=>by
  apply Ev.succ
  simp only[aD_.j0]
  exact Ev.pos (by first|rfl|trivial) (Ev.const (by rw[applyZ,if_neg h];rfl))
 unfold aD_.f
 refine Ev.bind' _ (implZone_eq a c l ha hl sl) ?_
 by_cases h1:zoneOk a c l=true
 ·refine Ev.pos h1 (Ev.bind' _ (implGoodDiff_eq f t D A hd hA sd sA) ?_)
  by_cases h2:goodD f t D A=true
  ·refine Ev.pos h2 ?_
   by_cases h3:c=f
   ·refine Ev.pos h3 (Ev.bind' _ (implWithout_eq D l hd hl) ?_)
    by_cases h4:∀x∈D,hasR l x=true
    ·have h4':¬0<(lessR D l).length:=fun h=>lessR_pos.1 h h4
     refine Ev.neg (by omega) (Ev.bind' _ (implWithout_eq A l hA hl) ?_)
     by_cases h5:∀x∈A,hasR l x=false
     ·have hok:applyOk a c l f t D A:=⟨h1,h2,h3,h4,h5⟩
      have h5':¬(lessR A l).length<A.length:=fun h=>(lessR_all A l).1 h h5
      obtain⟨o1,o2,o3,o4,o5,o6⟩:=apply_out a c l f t D A hl hA sl sd sA hok
      have n2:=lessR_len l D
      rw[decide_eq_false (show ¬((lessR A l).length:Int)<(A.length:Int) by omega)]
      apply Ev.succ
      simp only[aD_.j0]
      refine Ev.neg (by simp) (Ev.bind' _ (implWithout_eq l D hl hd) (Ev.bind' _ (implBoth_eq _ _ (by omega) (by omega) o5 o6) (Ev.bind' _ (implZone_eq a t _ ha (by omega) (fun x hx=>(o2.2 x hx).2)) ?_)))
      rw[applyZ,if_pos hok]
      by_cases hz:zoneOk a t (bothR (lessR l D) A)=true
      ·exact Ev.pos hz (Ev.const (by rw[if_pos hz]))
      ·exact Ev.neg hz (Ev.const (by rw[if_neg hz];rfl))
     ·have h5':(lessR A l).length<A.length:=(lessR_all A l).2 h5
      rw[decide_eq_true (show((lessR A l).length:Int)<(A.length:Int) by omega)]
      exact hbad (fun h=>h5 h.2.2.2.2)
    ·have h4':0<(lessR D l).length:=lessR_pos.2 h4
     exact Ev.pos (by omega) (hbad (fun h=>h4 h.2.2.2.1))
   ·exact Ev.neg h3 (hbad (fun h=>h3 h.2.2.1))
  ·exact Ev.neg h2 (hbad (fun h=>h2 h.2.1))
 ·exact Ev.neg h1 (hbad (fun h=>h1 h.1))
theorem specApply_dels (h1:zoneOk a c l=true) (h2:goodD f t D A=true) (h3:c=f):Ev (fun k=>aC_.l0 k D (D.length:Int) 0 a c l f t D A) (applyZ a c l f t D A):=by
 have hadds:(∀x∈D,hasR l x=true)→Ev (fun k=>aC_.l1 k A (A.length:Int) 0 a c l f t D A) (applyZ a c l f t D A):=by
  intro h4
  refine Ev.eq_ (a4_ A (fun k (_:Unit) i=>aC_.l1 k A (A.length:Int) i a c l f t D A) (fun _ _=>applyZ a c l f t D A) (fun p _=>∀x∈p,hasR l x=false) ?_ ?_ () (by simp)) rfl
  ·intro _ hp
   have hok:applyOk a c l f t D A:=⟨h1,h2,h3,h4,hp⟩
   obtain⟨o1,o2,o3,o4,o5,o6⟩:=apply_out a c l f t D A hl hA sl sd sA hok
   have n2:=lessR_len l D
   apply Ev.succ
   simp only[aC_.l1]
   refine Ev.neg (by omega) (Ev.bind' _ (specLess_eq l D hl hd) (Ev.bind' _ (specAnd_eq _ _ (by omega) (by omega) o5 o6) (Ev.bind' _ (specZone_eq a t _ ha (by omega) (fun x hx=>(o2.2 x hx).2)) ?_)))
   rw[applyZ,if_pos hok]
   by_cases hz:zoneOk a t (bothR (lessR l D) A)=true
   ·exact Ev.pos hz (Ev.const (by rw[if_pos hz]))
   ·exact Ev.neg hz (Ev.const (by rw[if_neg hz];rfl))
  ·intro p x q _ e hp ih
   have hm:=bc_ e
   apply Ev.succ
   simp only[aC_.l1,a_,bt_ e]
   refine Ev.pos hm.1 (Ev.pos (by omega) (Ev.pos hm.1 (Ev.bind' _ (specHas_eq l x hl) ?_)))
   rw[w64 (i:=(p.length:Int)+1) (by omega) (by omega)]
   cases hx:hasR l x with
   | true=>exact Ev.aK_ (Ev.const (by rw[applyZ,if_neg (fun h=>by have:=h.2.2.2.2 x (b5_ e);rw[hx] at this;cases this)];rfl))
   | false =>
    refine Ev.aG_ (ih () (fun y hy=>?_))
    rcases List.mem_append.1 hy with hy|hy
    ·exact hp y hy
    ·obtain rfl:y=x:=by simpa using hy
     exact hx
 refine Ev.eq_ (a4_ D (fun k (_:Unit) i=>aC_.l0 k D (D.length:Int) i a c l f t D A) (fun _ _=>applyZ a c l f t D A) (fun p _=>∀x∈p,hasR l x=true) ?_ ?_ () (by simp)) rfl
 ·intro _ hp
  apply Ev.succ
  simp only[aC_.l0]
  exact Ev.neg (by omega) (hadds hp)
 ·intro p x q _ e hp ih
  have hm:=bc_ e
  apply Ev.succ
  simp only[aC_.l0,a_,bt_ e]
  refine Ev.pos hm.1 (Ev.pos (by omega) (Ev.pos hm.1 (Ev.bind' _ (specHas_eq l x hl) ?_)))
  rw[w64 (i:=(p.length:Int)+1) (by omega) (by omega)]
  cases hx:hasR l x with
  | true =>
   refine Ev.aK_ (ih () (fun y hy=>?_))
   rcases List.mem_append.1 hy with hy|hy
   ·exact hp y hy
   ·obtain rfl:y=x:=by simpa using hy
    exact hx
  | false=>exact Ev.aG_ (Ev.const (by rw[applyZ,if_neg (fun h=>by have:=h.2.2.2.1 x (b5_ e);rw[hx] at this;cases this)];rfl))
theorem specApply_eq:Ev (fun k=>aC_.f k a c l f t D A) (applyZ a c l f t D A):=by
 have hbad:¬applyOk a c l f t D A→Ev (fun k=>aC_.j0 k true a c l f t D A) (applyZ a c l f t D A):=fun h=>by
  apply Ev.succ
  simp only[aC_.j0]
  exact Ev.pos (by first|rfl|trivial) (Ev.const (by rw[applyZ,if_neg h];rfl))
 unfold aC_.f
 refine Ev.bind' _ (specZone_eq a c l ha hl sl) ?_
 by_cases h1:zoneOk a c l=true
 ·refine Ev.pos h1 (Ev.bind' _ (specGoodDiff_eq f t D A hd hA sd sA) ?_)
  by_cases h2:goodD f t D A=true
  ·refine Ev.pos h2 ?_
   by_cases h3:c=f
   ·rw[show(c != f)=false from by simp[h3]]
    apply Ev.succ
    simp only[aC_.j0]
    exact Ev.neg (by simp) (specApply_dels a c l f t D A ha hl hd hA sl sd sA h1 h2 h3)
   ·rw[show(c != f)=true from by simp[h3]]
    exact hbad (fun h=>h3 h.2.2.1)
  ·exact Ev.neg h2 (hbad (fun h=>h2 h.2.1))
 ·exact Ev.neg h1 (hbad (fun h=>h1 h.1))
omit ha hd in
end
end
end Go.Proofs.YtenpejebbeoceaaGreatDoor.PL
end
