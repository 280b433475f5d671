/- Texts that belong together,joined by claimit.py. -/
import Derived.Test.YtldinehdhmbkmaaGreatDoorZXBase
import Derived.Test.YtldinehdhmbkmaaGreatDoorJFnExactProveAbsent0
import Derived.Test.YtldinehdhmbkmaaGreatDoorJFnExactProveAbsent1
import Derived.Test.YtldinehdhmbkmaaGreatDoorJFnExactProveAbsent2
import Derived.Test.YtldinehdhmbkmaaGreatDoorJFnExactProveAbsent3
import Derived.Test.YtldinehdhmbkmaaGreatDoorJFnExactProveAbsent4
import Derived.Test.YtldinehdhmbkmaaGreatDoorZLPBytes
import Derived.Test.YtldinehdhmbkmaaGreatDoorLPNumT
section
set_option linter.unusedVariables false
set_option linter.unusedSimpArgs false
namespace Go.Proofs.YtldinehdhmbkmaaGreatDoor.PL
open Go.RowKit Go.Proofs.YtldinehdhmbkmaaGreatDoor.Pp Go.Proofs.YtldinehdhmbkmaaGreatDoor.PB Go.Proofs.YtldinehdhmbkmaaGreatDoorW.PrintWords Go.Proofs.YtldinehdhmbkmaaGreatDoorW.PrintLast
def inR (a b c:Int):Bool:=decide (b≤a∧a≤c)
theorem l1In_eq (a b c:Int):b0_.f a b c=some (inR a b c):=by
 unfold b0_.f inR
 by_cases h:a≥b
 ·rw[if_pos h];simp[h]
 ·rw[if_neg h];simp;omega
theorem within_eq (a b c:Int):b5_.f a b c=some (inR a b c):=by
 unfold b5_.f inR
 by_cases h:a≥b
 ·rw[if_pos h];simp[h]
 ·rw[if_neg h];simp;omega
theorem az_.idx (l0:List ByteArray) (q:ByteArray→Bool) (hl:l0.length≤1048576) (h:∀x∈l0,Ev (fun k=>impl_GoodName_1.f x) (q x)):Ev (fun k=>az_.f k l0 ) (idxP q l0):=by
 unfold az_.f
 refine Ev.eq_ (a1_ l0 (fun k (_:Nat) i=>az_.l0 k l0 (l0.length:Int) i) (fun n t=>if 0≤idxP q t then(n:Int)+idxP q t else -1) (fun p n=>n=p.length) ?_ ?_ 0 rfl) ?_
 ·intro n hn
  apply Ev.succ
  simp only[az_.l0]
  exact Ev.neg (by omega) (Ev.const (by simp[idxP]))
 ·intro p x t n e hn ih
  have hm:=a7_ e
  have hx:=h x (cF_ e)
  apply Ev.succ
  simp only[az_.l0,cR_ e]
  refine Ev.pos hm.1 (Ev.pos (by omega) (Ev.pos hm.1 (Ev.bind' _ hx ?_)))
  have hq:idxP q (x::t)=(if q x then 0 else if 0≤idxP q t then idxP q t+1 else -1):=rfl
  rw[hq]
  cases q x with
  | true=>exact Ev.aK_ (Ev.const (by simp[hn]))
  | false =>
   refine Ev.aJ_ ?_
   rw[w64 (by omega) (by omega)]
   refine Ev.eq_ (ih (n+1) (by simp[hn])) ?_
   by_cases h2:0≤idxP q t
   ·simp[h2];omega
   ·simp[h2]
 ·by_cases h2:0≤idxP q l0
  ·simp[h2]
  ·rw[if_neg h2]
   exact(idxP_neg q l0 h2).symm
theorem a2_.any (l0:List ByteArray) (q:ByteArray→Bool) (hl:l0.length≤1048576) (h:∀x∈l0,Ev (fun k=>impl_GoodName_1.f x) (q x)):Ev (fun k=>a2_.f k l0 ) (l0.any q):=by
 unfold a2_.f
 refine Ev.bind' _ (az_.idx l0  q hl h) (Ev.const ?_)
 rw[idxP_nonneg]
def okB (b:UInt8):Bool:=(decide (97≤(b.toNat:Int))&&decide ((b.toNat:Int)≤122))||(decide (48≤(b.toNat:Int))&&decide ((b.toNat:Int)≤57))||decide ((b.toNat:Int)=45)||decide ((b.toNat:Int)=95)
def labelOk (s:ByteArray):Bool:=decide (bts s=[42])||((bts s).all okB&&inR (bts s).length 1 20)
def labels (s:ByteArray):List ByteArray:=if bts s=[] then [] else splitC 46 [] (bts s)
def nameOk (s:ByteArray):Bool:=decide ((bts s).length≤60)&&decide ((labels s).length≤8)&&(labels s).all labelOk
theorem specSplit_eq (s:ByteArray) (hs:s.size≤1048576):Ev (fun k=>bp_.f k s 46) (splitC 46 [] (bts s)):=by
 unfold bp_.f
 have hz:=be_ s
 refine Ev.eq_ (a1_ (bts s) (fun k (st:List ByteArray × Nat × List UInt8) i=>bp_.l0 k s 46 st.1 st.2.1 i) (fun st t=>st.1++splitC 46 st.2.2 t) (fun p st=>st.2.1≤p.length∧st.2.2=p.drop st.2.1∧st.1.length≤p.length) ?_ ?_ ([],0,[]) ⟨Nat.zero_le _,rfl,Nat.zero_le _⟩) (by simp)
 ·rintro⟨acc,fr,cur⟩ ⟨h1,h2,h3⟩
  apply Ev.succ
  simp only[bp_.l0]
  simp only at h1 h2 h3
  refine Ev.neg (by omega) (Ev.pos (by omega) (Ev.pos (by omega) (Ev.pos (by omega) (Ev.const ?_))))
  simp only[splitC]
  rw[extract_bts,h2]
  congr 4
  rw[List.take_of_length_le]
  ·simp
  ·simp[hz]
 ·rintro p b t ⟨acc,fr,cur⟩ e ⟨h1,h2,h3⟩ ih
  have hm:=a7_ e
  simp only at h1 h2 h3
  apply Ev.succ
  simp only[bp_.l0]
  refine Ev.pos (by omega) (Ev.pos (by omega) ?_)
  rw[bt_mid e,w64 (i:=(p.length:Int)+1) (by omega) (by omega)]
  by_cases hb:b=46
  ·subst hb
   refine Ev.pos (by decide) (Ev.pos (by omega) (Ev.pos (by omega) (Ev.pos (by omega) (Ev.pos (by omega) ?_))))
   have hx:s.extract ((fr:Nat):Int).toNat ((p.length:Nat):Int).toNat=⟨cur.toArray⟩:=by
    rw[extract_bts,h2]
    congr 2
    rw[e]
    simp only[Int.toNat_natCast]
    rw[List.drop_append_of_le_length h1,List.take_append_of_le_length (by simp),List.take_of_length_le (by simp)]
   rw[hx]
   have hc:((p.length:Int)+1)=(((p.length+1:Nat)):Int):=by omega
   refine Ev.eq_ (ih (acc++[⟨cur.toArray⟩],p.length+1,[]) ⟨by simp,by simp,by simp;omega⟩) ?_
   simp[splitC]
  ·have:¬((b.toNat:Int)=46):=by
    intro h
    apply hb
    apply UInt8.toNat_inj.mp
    have h46:(46:UInt8).toNat=46:=rfl
    omega
   refine Ev.neg this ?_
   refine Ev.eq_ (ih (acc,fr,cur++[b]) ⟨by simp;omega,?_,by simp;omega⟩) ?_
   ·simp only
    rw[h2,List.drop_append_of_le_length h1]
   ·simp[splitC,hb]
theorem genSplit_loop (n:Nat) (hn:n≤1048576):∀(m:Nat) (s:ByteArray) (A B:List ByteArray),s.size≤1048576→Go.Lib.countByte (bts s) 46=m→A.length+m=n→A.length+B.length=n+1 →
  Ev (fun k=>aX_.l0 k s (⟨#[46]⟩:ByteArray) 0 (n:Int) (A++B) (A.length:Int)) (A++splitC 46 [] (bts s))
 | 0,s,A,B,hs,hc,hA,hB=>by
  obtain⟨hnone,_⟩:=index_none _ _ hc
  apply Ev.succ
  simp only[aX_.l0]
  have hl:(A++B).length=n+1:=by simp;omega
  refine Ev.neg (by omega) (Ev.pos (by omega) (Ev.pos (by rw[hl];omega) ?_))
  rw[w64 (i:=(A.length:Int)+1) (by omega) (by omega)]
  refine Ev.pos (by omega) (Ev.pos (by rw[hl];omega) (Ev.const ?_))
  rw[splitC_none _ _ _ hnone]
  obtain⟨b,B',rfl⟩:∃b B',B=b::B':=by
   cases B with
   | nil=>simp at hB;omega
   | cons b B'=>exact⟨b,B',rfl⟩
  rw[set_mid]
  have:(((A.length:Int)+1)).toNat=(A++[s]).length:=by simp<;>omega
  rw[this,List.take_left']
  ·simp[mk_bts]
  ·rfl
 | m+1,s,A,B,hs,hc,hA,hB=>by
  obtain⟨pre,post,e,hm,hi,hc2⟩:=index_some (bts s) 46 (by omega)
  have hz:=be_ s
  have hlen:(bts s).length=pre.length+(post.length+1):=by rw[e];simp
  apply Ev.succ
  simp only[aX_.l0]
  have hl:(A++B).length=n+1:=by simp;omega
  refine Ev.pos (by omega) (Ev.cbind (pre.length:Int) ?_ ?_)
  ·unfold cP_.f
   rw[if_pos (by rfl)]
   exact congrArg some hi
  ·refine Ev.neg (by omega) ?_
   have hsz1:((⟨#[46]⟩:ByteArray).size:Int)=1:=rfl
   rw[hsz1,Int.add_zero,w64 (i:=(pre.length:Int)) (by omega) (by omega),w64 (i:=(pre.length:Int)+1) (by omega) (by omega),w64 (i:=(A.length:Int)+1) (by omega) (by omega)]
   refine Ev.pos (by omega) (Ev.pos (by omega) (Ev.pos (by omega) (Ev.pos (by rw[hl];omega) (Ev.pos (by omega) (Ev.pos (by omega) ?_)))))
   obtain⟨b,B',rfl⟩:∃b B',B=b::B':=by
    cases B with
    | nil=>simp at hB;omega
    | cons b B'=>exact⟨b,B',rfl⟩
   rw[set_mid]
   have hx1:s.extract 0 ((pre.length:Int)).toNat=⟨pre.toArray⟩:=by
    rw[extract_bts]
    congr 2
    rw[e]
    simp
   have hx2:s.extract (((pre.length:Int)+1)).toNat s.size=⟨post.toArray⟩:=by
    rw[extract_bts]
    congr 2
    have e':bts s=(pre++[46])++post:=by simpa using e
    have h1:(((pre.length:Int)+1)).toNat=(pre++[46]).length:=by simp<;>omega
    rw[e',h1,List.drop_left,List.take_of_length_le]
    simp at hlen ⊢
    omega
   rw[hx1,hx2]
   have hb1:bts (⟨post.toArray⟩:ByteArray)=post:=ch_ post
   have hb2:(⟨post.toArray⟩:ByteArray).size=post.length:=by rw[be_,hb1]
   have:=genSplit_loop n hn m ⟨post.toArray⟩ (A++[⟨pre.toArray⟩]) B' (by omega) (by rw[hb1];omega) (by simp;omega) (by simp at hB ⊢;omega)
   have hcast:(((A++[(⟨pre.toArray⟩:ByteArray)]).length:Nat):Int)=(A.length:Int)+1:=by simp
   rw[hcast] at this
   refine Ev.eq_ this ?_
   rw[hb1,e,splitC_pre _ _ _ _ hm]
   simp
theorem strSplit_eq (s:ByteArray) (hs:s.size≤1048576):Ev (fun k=>strings_Split.f k s (⟨#[46]⟩:ByteArray)) (splitC 46 [] (bts s)):=by
 unfold strings_Split.f aX_.f
 have hz:=be_ s
 have hcl:=count_le (bts s) 46
 refine Ev.bind' _ (Ev.neg (by omega) (Ev.neg (by rw[aT_];decide) (Ev.pos (by omega) (Ev.cbind (Go.Lib.countByte (bts s) 46:Int) (by unfold strings_Count.f;rw[if_pos (by rfl)];rfl) ?_)))) (Ev.const rfl)
 apply Ev.succ
 simp only[aX_.j0]
 rw[w64 (i:=((Go.Lib.countByte (bts s) 46:Nat):Int)+1) (by omega) (by omega),w64 (i:=(s.size:Int)+1) (by omega) (by omega)]
 have hmn:mn (((Go.Lib.countByte (bts s) 46:Nat):Int)+1) ((s.size:Int)+1)=((Go.Lib.countByte (bts s) 46+1:Nat):Int):=by
  unfold mn
  split<;>omega
 rw[hmn]
 rw[w64 (i:=((Go.Lib.countByte (bts s) 46+1:Nat):Int) - 1) (by omega) (by omega)]
 refine Ev.pos (by omega) (Ev.pos (by omega) ?_)
 have h1:(((Go.Lib.countByte (bts s) 46+1:Nat):Int) - 1)=((Go.Lib.countByte (bts s) 46:Nat):Int):=by omega
 rw[h1]
 have:=genSplit_loop (Go.Lib.countByte (bts s) 46) (by omega) _ s [] (List.replicate ((Go.Lib.countByte (bts s) 46+1:Nat):Int).toNat (⟨#[]⟩:ByteArray)) hs rfl (by simp) (by simp)
 simpa using this
theorem okB_in (b:UInt8):([97,98,99,100,101,102,103,104,105,106,107,108,109,110,111,112,113,114,115,116,117,118,119,120,121,122,48,49,50,51,52,53,54,55,56,57,45,95]:List UInt8).contains b=okB b :=
 all8 (fun b=>([97,98,99,100,101,102,103,104,105,106,107,108,109,110,111,112,113,114,115,116,117,118,119,120,121,122,48,49,50,51,52,53,54,55,56,57,45,95]:List UInt8).contains b) okB (by decide +kernel) b
theorem isLabel_eq (s:ByteArray) (hs:s.size≤1048576):impl_isLabel.f s=some (labelOk s):=by
 have hz:=be_ s
 unfold impl_isLabel.f labelOk
 rw[aT_]
 by_cases h:bts s=[42]
 ·rw[if_pos h];simp[h]
 ·rw[if_neg h,within_eq]
  simp only[Option.bind_some,h,decide_false,Bool.false_or]
  rw[hz]
  cases hr:inR ((bts s).length:Int) 1 20 with
  | false=>simp
  | true =>
   simp only[if_true,Bool.and_true]
   unfold strings_Trim.f
   rw[if_pos ⟨by omega,by decide,by decide +kernel⟩]
   simp only[Option.bind_some]
   congr 1
   rw[aT_,ch_,trimS_nil]
   congr 1
   funext b
   exact okB_in b
theorem specLabel_eq (s:ByteArray) (hs:s.size≤1048576):Ev (fun k=>bn_.f k s) (labelOk s):=by
 have hz:=be_ s
 unfold bn_.f labelOk
 rw[aT_]
 by_cases h:bts s=[42]
 ·exact Ev.pos h (Ev.const (by simp[h]))
 ·refine Ev.neg h ?_
  refine Ev.eq_ (a1_ (bts s) (fun k (_:Unit) i=>bn_.l0 k s i) (fun _ t=>t.all okB&&inR (bts s).length 1 20) (fun _ _=>True) ?_ ?_ () trivial) (by simp[h])
  ·intro _ _
   apply Ev.succ
   simp only[bn_.l0]
   refine Ev.neg (by omega) (Ev.cbind _ (l1In_eq _ _ _) (Ev.const (by simp[hz])))
  ·intro p b t _ e _ ih
   have hm:=a7_ e
   apply Ev.succ
   simp only[bn_.l0]
   refine Ev.pos (by omega) (Ev.pos (by omega) ?_)
   rw[bt_mid e,w64 (i:=(p.length:Int)+1) (by omega) (by omega)]
   have hgo:=ih () trivial
   have hb:=b.toNat_lt
   have key:∀(g:Nat→Option Bool),(okB b=true→Ev g (t.all okB&&inR (bts s).length 1 20))→(okB b=false→Ev g false)→Ev g ((b::t).all okB&&inR (bts s).length 1 20):=by
    intro g h1 h2
    cases ho:okB b with
    | true=>simpa[ho] using h1 ho
    | false=>simpa[ho] using h2 ho
   refine key _ (fun ho=>?_) (fun ho=>?_)
   ·simp only[okB,Bool.or_eq_true,Bool.and_eq_true,decide_eq_true_eq] at ho
    by_cases c1:(b.toNat:Int)≥97
    ·refine Ev.pos c1 ?_
     by_cases c2:(b.toNat:Int)≤122
     ·exact Ev.pos c2 hgo
     ·refine Ev.neg c2 (Ev.pos (by omega) (Ev.neg (by omega) (Ev.neg (by omega) (Ev.neg (by omega) ?_))))
      omega
    ·refine Ev.neg c1 ?_
     by_cases c3:(b.toNat:Int)≥48
     ·refine Ev.pos c3 ?_
      by_cases c4:(b.toNat:Int)≤57
      ·exact Ev.pos c4 hgo
      ·refine Ev.neg c4 ?_
       by_cases c5:(b.toNat:Int)=45
       ·exact Ev.pos c5 hgo
       ·exact Ev.neg c5 (Ev.pos (by omega) hgo)
     ·refine Ev.neg c3 ?_
      by_cases c5:(b.toNat:Int)=45
      ·exact Ev.pos c5 hgo
      ·exact Ev.neg c5 (Ev.pos (by omega) hgo)
   ·simp only[okB,Bool.or_eq_false_iff,Bool.and_eq_false_iff,decide_eq_false_iff_not] at ho
    by_cases c1:(b.toNat:Int)≥97
    ·exact Ev.pos c1 (Ev.neg (by omega) (Ev.pos (by omega) (Ev.neg (by omega) (Ev.neg (by omega) (Ev.neg (by omega) (Ev.const rfl))))))
    ·refine Ev.neg c1 ?_
     by_cases c3:(b.toNat:Int)≥48
     ·exact Ev.pos c3 (Ev.neg (by omega) (Ev.neg (by omega) (Ev.neg (by omega) (Ev.const rfl))))
     ·exact Ev.neg c3 (Ev.neg (by omega) (Ev.neg (by omega) (Ev.const rfl)))
theorem splitC_sizes (c:UInt8):∀(l cur:List UInt8),∀x∈splitC c cur l,x.size≤cur.length+l.length
 | [],cur,x,h=>by
  simp only[splitC,List.mem_singleton] at h
  subst h
  rw[be_,ch_]
  simp
 | b::l,cur,x,h=>by
  unfold splitC at h
  split at h
  ·rcases List.mem_cons.mp h with rfl|h2
   ·rw[be_,ch_];simp
   ·have:=splitC_sizes c l [] x h2
    simp at this ⊢
    omega
  ·have:=splitC_sizes c l (cur++[b]) x h
   simp at this ⊢
   omega
theorem specLabels_eq (s:ByteArray) (hs:s.size≤1048576):Ev (fun k=>bh_.f k s) (if (labels s).all labelOk=true then(labels s,decide ((bts s).length≤60)&&decide ((labels s).length≤8)) else([],false)):=by
 have hz:=be_ s
 unfold bh_.f
 rw[aT_]
 by_cases h:bts s=[]
 ·refine Ev.pos h (Ev.const ?_)
  have:labels s=[]:=by unfold labels;rw[if_pos h]
  simp[this,h]
 ·have hlab:labels s=splitC 46 [] (bts s):=by unfold labels;rw[if_neg h]
  rw[hlab]
  refine Ev.neg h (Ev.bind' _ (specSplit_eq s hs) ?_)
  have hlen:=splitC_len 46 (bts s) []
  have hsz:=splitC_sizes 46 (bts s) []
  generalize splitC 46 [] (bts s)=L at hlen hsz
  refine Ev.eq_ (a1_ L (fun k (_:Unit) i=>bh_.l0 k s L L (L.length:Int) i) (fun _ t=>if t.all labelOk=true then(L,decide ((bts s).length≤60)&&decide (L.length≤8)) else([],false)) (fun _ _=>True) ?_ ?_ () trivial) rfl
  ·intro _ _
   apply Ev.succ
   simp only[bh_.l0]
   refine Ev.neg (by omega) ?_
   by_cases h60:(s.size:Int)≤60
   ·refine Ev.pos h60 (Ev.const ?_)
    have:(bts s).length≤60:=by omega
    simp[this]
    omega
   ·refine Ev.neg h60 (Ev.const ?_)
    have:¬(bts s).length≤60:=by omega
    simp[this]
  ·intro p x t _ e _ ih
   have hm:=a7_ e
   have hx:x.size≤1048576:=by have:=hsz x (cF_ e);simp at this;omega
   apply Ev.succ
   simp only[bh_.l0,cR_ e]
   refine Ev.pos hm.1 (Ev.pos (by omega) (Ev.pos hm.1 (Ev.bind' _ (specLabel_eq x hx) ?_)))
   cases hl:labelOk x with
   | false=>exact Ev.aJ_ (Ev.const (by simp[hl]))
   | true =>
    refine Ev.aK_ ?_
    rw[w64 (i:=(p.length:Int)+1) (by omega) (by omega)]
    refine Ev.eq_ (ih () trivial) ?_
    simp[hl]
theorem specGoodName_eq (s:ByteArray) (hs:s.size≤1048576):Ev (fun k=>cl_.f k s) (nameOk s):=by
 unfold cl_.f nameOk
 refine Ev.bind' _ (specLabels_eq s hs) (Ev.const ?_)
 cases(labels s).all labelOk<;>simp
theorem labelsOf_eq (s:ByteArray) (hs:s.size≤1048576):Ev (fun k=>cj_.f k s) (labels s):=by
 unfold cj_.f labels
 rw[aT_]
 by_cases h:bts s=[]
 ·exact Ev.pos h (Ev.const (by rw[if_pos h]))
 ·rw[if_neg h]
  exact Ev.neg h (Ev.bind' _ (strSplit_eq s hs) (Ev.const rfl))
theorem labels_len (s:ByteArray):(labels s).length≤s.size+1:=by
 have hz:=be_ s
 unfold labels
 split
 ·simp
 ·have:=splitC_len 46 (bts s) [];omega
theorem labels_sizes (s:ByteArray):∀x∈labels s,x.size≤s.size:=by
 have hz:=be_ s
 unfold labels
 split
 ·simp
 ·intro x hx
  have:=splitC_sizes 46 (bts s) [] x hx
  simp at this
  omega
theorem implGoodName_eq (s:ByteArray) (hs:s.size≤1048576):Ev (fun k=>bE_.f k s) (nameOk s):=by
 have hz:=be_ s
 have hll:=labels_len s
 have hls:=labels_sizes s
 unfold bE_.f nameOk
 by_cases h:(s.size:Int) > 60
 ·refine Ev.pos h (Ev.const ?_)
  have:¬(bts s).length≤60:=by omega
  simp[this]
 ·refine Ev.neg h (Ev.bind' _ (labelsOf_eq s hs) ?_)
  have h60:(bts s).length≤60:=by omega
  by_cases h8:((labels s).length:Int)≤8
  ·refine Ev.pos h8 (Ev.bind' _ (a2_.any (labels s) (fun x => !labelOk x) (by omega) ?_) (Ev.const ?_))
   ·intro x hx
    unfold impl_GoodName_1.f
    exact Ev.cbind _ (isLabel_eq x (by have:=hls x hx;omega)) (Ev.const rfl)
   ·have h8':(labels s).length≤8:=by omega
    rw[any_not]
    simp[h60,h8']
  ·refine Ev.neg h8 (Ev.const ?_)
   have h8':¬(labels s).length≤8:=by omega
   simp[h8']
def ltS (a b:ByteArray):Bool:=Op.bytesLess (bts a) (bts b)
def cmpR:List ByteArray→List ByteArray→Int
 | [],[]=>0
 | [],_::_ => -1
 | _::_,[]=>1
 | a::s,b::t=>if ltS a b=true then -1 else if bts a=bts b then cmpR s t else 1
def cmpN (a b:ByteArray):Int:=cmpR (labels a).reverse (labels b).reverse
theorem rev_at {α:Type} {l p t:List α} {x d:α} (e:l.reverse=p++x::t):rdOf d l ((l.length:Int) - ((p.length:Int)+1))=x:=by
 have hl:l=t.reverse++x::p.reverse:=by
  have:=congrArg List.reverse e
  rw[List.reverse_reverse] at this
  rw[this]
  simp
 have hn:((l.length:Int) - ((p.length:Int)+1))=((t.reverse.length:Nat):Int):=by
  rw[hl]
  simp<;>omega
 rw[hn]
 exact cR_ hl
theorem specCompare_loop (x y:List ByteArray) (hx:x.length≤1048577) (hy:y.length≤1048577):∀(s t p q:List ByteArray),x.reverse=p++s→y.reverse=q++t→p.length=q.length→Ev (fun k=>aH_.l0 k x y ((p.length:Int)+1)) (cmpR s t)
 | [],t,p,q,e1,e2,hp=>by
  have l1:x.length=p.length:=by have:=congrArg List.length e1;simpa using this
  have l2:y.length=q.length+t.length:=by have:=congrArg List.length e2;simpa using this
  apply Ev.succ
  simp only[aH_.l0]
  refine Ev.neg (by omega) (Ev.succ ?_)
  simp only[aH_.j1]
  cases t with
  | nil =>
   simp only[List.length_nil] at l2
   first
    | exact Ev.neg (by simp) (Ev.neg (by omega) (Ev.neg (by omega) (Ev.const rfl)))
    | exact Ev.neg (by omega) (Ev.neg (by omega) (Ev.const rfl))
  | cons b t =>
   simp only[List.length_cons] at l2
   first
    | exact Ev.neg (by simp) (Ev.pos (by omega) (Ev.const rfl))
    | exact Ev.pos (by omega) (Ev.const rfl)
 | a::s,[],p,q,e1,e2,hp=>by
  have l1:x.length=p.length+(s.length+1):=by have:=congrArg List.length e1;simpa using this
  have l2:y.length=q.length:=by have:=congrArg List.length e2;simpa using this
  apply Ev.succ
  simp only[aH_.l0]
  refine Ev.pos (by omega) (Ev.succ ?_)
  simp only[aH_.j1]
  refine Ev.neg (by simp;omega) (Ev.neg (by omega) (Ev.pos (by omega) (Ev.const rfl)))
 | a::s,b::t,p,q,e1,e2,hp=>by
  have l1:x.length=p.length+(s.length+1):=by have:=congrArg List.length e1;simpa using this
  have l2:y.length=q.length+(t.length+1):=by have:=congrArg List.length e2;simpa using this
  have ra:rdOf ByteArray.empty x ((x.length:Int) - ((p.length:Int)+1))=a:=rev_at e1
  have rb:rdOf ByteArray.empty y ((y.length:Int) - ((p.length:Int)+1))=b:=by rw[hp];exact rev_at e2
  have ih:=specCompare_loop x y hx hy s t (p++[a]) (q++[b]) (by rw[e1];simp) (by rw[e2];simp) (by simp[hp])
  have ec:(((p++[a]).length:Nat):Int)+1=(p.length:Int)+1+1:=by simp
  rw[ec] at ih
  apply Ev.succ
  simp only[aH_.l0]
  refine Ev.pos (by omega) (Ev.succ ?_)
  simp only[aH_.j1]
  rw[w64 (i:=(x.length:Int) - ((p.length:Int)+1)) (by omega) (by omega),w64 (i:=(y.length:Int) - ((p.length:Int)+1)) (by omega) (by omega),w64 (i:=(p.length:Int)+1+1) (by omega) (by omega),ra,rb,aT_,aT_]
  refine Ev.pos (by simp;omega) (Ev.pos (by omega) (Ev.pos (by omega) (Ev.pos (by omega) (Ev.pos (by omega) ?_))))
  have hc:cmpR (a::s) (b::t)=if ltS a b=true then -1 else if bts a=bts b then cmpR s t else 1:=rfl
  rw[hc]
  by_cases h1:ltS a b=true
  ·rw[if_pos h1]
   exact Ev.pos h1 (Ev.const rfl)
  ·rw[if_neg h1]
   refine Ev.neg h1 ?_
   by_cases h2:bts a=bts b
   ·rw[if_pos h2]
    exact Ev.pos h2 ih
   ·rw[if_neg h2]
    exact Ev.neg h2 (Ev.const rfl)
theorem specCompare_eq (a b:ByteArray) (ha:a.size≤1048576) (hb:b.size≤1048576) (ga:(labels a).all labelOk=true) (gb:(labels b).all labelOk=true):Ev (fun k=>aH_.f k a b) (cmpN a b):=by
 have la:=labels_len a
 have lb:=labels_len b
 unfold aH_.f
 have h1:=specLabels_eq a ha
 have h2:=specLabels_eq b hb
 rw[if_pos ga] at h1
 rw[if_pos gb] at h2
 refine Ev.bind' _ h1 (Ev.bind' _ h2 ?_)
 have:=specCompare_loop (labels a) (labels b) (by omega) (by omega) (labels a).reverse (labels b).reverse [] [] rfl rfl rfl
 unfold cmpN
 simpa using this
theorem reverse_loop:∀(n:Nat) (M A B:List ByteArray),M.length≤n→A.length=B.length→(A++M++B).length≤1048577→Ev (fun k=>ar_.l0 k (A++M++B) (A.length:Int) ((A.length:Int)+M.length - 1)) (A++M.reverse++B)
 | n,[],A,B,hn,hAB,hl=>by
  apply Ev.succ
  simp only[ar_.l0]
  exact Ev.neg (by simp<;>omega) (Ev.const (by simp))
 | n,[m],A,B,hn,hAB,hl=>by
  apply Ev.succ
  simp only[ar_.l0]
  exact Ev.neg (by simp<;>omega) (Ev.const (by simp))
 | 0,m1::m2::M,A,B,hn,hAB,hl=>by simp at hn
 | n+1,m1::m2::M,A,B,hn,hAB,hl=>by
  obtain⟨M',z,hM⟩:∃M' z,m2::M=M'++[z]:=⟨(m2::M).dropLast,(m2::M).getLast (by simp),(List.dropLast_concat_getLast _).symm⟩
  rw[hM] at hn hl ⊢
  have hlen:(A++(m1::(M'++[z]))++B).length=A.length+(M'.length+2)+B.length:=by simp;omega
  rw[hlen] at hl
  simp only[List.length_cons,List.length_append,List.length_nil] at hn
  have e1:A++(m1::(M'++[z]))++B=A++m1::(M'++z::B):=by simp
  have e2:A++(m1::(M'++[z]))++B=(A++m1::M')++z::B:=by simp
  have hj:(A.length:Int)+(((m1::(M'++[z])).length:Nat):Int) - 1=(((A++m1::M').length:Nat):Int):=by simp;omega
  have hj2:(((A++m1::M').length:Nat):Int)=(A.length:Int)+M'.length+1:=by simp;omega
  rw[hj]
  have ih:=reverse_loop n M' (A++[z]) (m1::B) (by omega) (by simp;omega) (by simp;omega)
  apply Ev.succ
  simp only[ar_.l0]
  have r1:rdOf ByteArray.empty (A++(m1::(M'++[z]))++B) (A.length:Int)=m1:=cR_ e1
  have r2:rdOf ByteArray.empty (A++(m1::(M'++[z]))++B) (((A++m1::M').length:Nat):Int)=z:=cR_ e2
  rw[r1,r2,w64 (i:=(A.length:Int)+1) (by omega) (by omega),w64 (i:=(((A++m1::M').length:Nat):Int) - 1) (by omega) (by omega)]
  refine Ev.pos (by omega) (Ev.pos (by omega) (Ev.pos (by rw[hlen];omega) (Ev.pos (by omega) (Ev.pos (by rw[hlen];omega) ?_))))
  have s1:(A++(m1::(M'++[z]))++B).set ((A.length:Int)).toNat z=(A++z::M')++z::B:=by
   rw[e1,set_mid]
   simp
  have s2:((A++z::M')++z::B).set ((((A++m1::M').length:Nat):Int)).toNat m1=(A++[z])++M'++(m1::B):=by
   have:(((A++m1::M').length:Nat):Int)=(((A++z::M').length:Nat):Int):=by simp
   rw[this,set_mid]
   simp
  rw[s1,s2]
  have c1:(((A++[z]).length:Nat):Int)=(A.length:Int)+1:=by simp
  have c2:(A.length:Int)+1+(M'.length:Int) - 1=(((A++m1::M').length:Nat):Int) - 1:=by rw[hj2];omega
  rw[c1,c2] at ih
  refine Ev.eq_ ih ?_
  simp
theorem reverse_eq (l:List ByteArray) (hl:l.length≤1048577):Ev (fun k=>ar_.f k l) l.reverse:=by
 unfold ar_.f
 rw[w64 (by omega) (by omega)]
 have:=reverse_loop l.length l [] [] (Nat.le_refl _) rfl (by simpa using hl)
 simpa using this
theorem cmpStr_eq (a b:ByteArray):cI_.f a b=some (if ltS a b=true then -1 else if bts a=bts b then 0 else 1):=by
 unfold cI_.f bD_.f ltS
 simp only[Option.bind_some,bne_self_eq_false,Bool.false_eq_true,if_false,aT_]
 split
 ·rfl
 ·split<;>rfl
theorem sliceCompare_eq (x y:List ByteArray) (hx:x.length≤1048577) (hy:y.length≤1048577):Ev (fun k=>aU_.f k x y) (cmpR x y):=by
 unfold aU_.f
 have main:∀(s t p q:List ByteArray),x=p++s→y=q++t→p.length=q.length→Ev (fun k=>aU_.l0 k x y x (x.length:Int) (p.length:Int)) (cmpR s t):=by
  intro s
  induction s with
  | nil =>
   intro t p q e1 e2 hp
   have l1:x.length=p.length:=by rw[e1];simp
   have l2:y.length=q.length+t.length:=by rw[e2];simp
   apply Ev.succ
   simp only[aU_.l0]
   refine Ev.neg (by omega) ?_
   cases t with
   | nil=>simp only[List.length_nil] at l2;exact Ev.neg (by omega) (Ev.const rfl)
   | cons b t=>simp only[List.length_cons] at l2;exact Ev.pos (by omega) (Ev.const rfl)
  | cons a s ih =>
   intro t p q e1 e2 hp
   have m1:=a7_ e1
   apply Ev.succ
   simp only[aU_.l0,cR_ e1]
   refine Ev.pos m1.1 (Ev.pos (by omega) (Ev.pos m1.1 ?_))
   cases t with
   | nil =>
    have l2:y.length=q.length:=by rw[e2];simp
    exact Ev.pos (by omega) (Ev.const rfl)
   | cons b t =>
    have m2:=a7_ e2
    have rb:rdOf ByteArray.empty y (p.length:Int)=b:=by rw[hp];exact cR_ e2
    have hg:=ih t (p++[a]) (q++[b]) (by rw[e1];simp) (by rw[e2];simp) (by simp[hp])
    have ec:(((p++[a]).length:Nat):Int)=(p.length:Int)+1:=by simp
    rw[ec] at hg
    rw[rb,w64 (i:=(p.length:Int)+1) (by omega) (by omega)]
    refine Ev.neg (by omega) (Ev.pos (by omega) (Ev.cbind _ (cmpStr_eq a b) ?_))
    have hc:cmpR (a::s) (b::t)=if ltS a b=true then -1 else if bts a=bts b then cmpR s t else 1:=rfl
    rw[hc]
    by_cases h1:ltS a b=true
    ·rw[if_pos h1,if_pos h1]
     exact Ev.neg (by omega) (Ev.const rfl)
    ·rw[if_neg h1,if_neg h1]
     by_cases h2:bts a=bts b
     ·rw[if_pos h2,if_pos h2]
      exact Ev.pos rfl hg
     ·rw[if_neg h2,if_neg h2]
      exact Ev.neg (by omega) (Ev.const rfl)
 simpa using main x y [] [] rfl rfl rfl
theorem compareNames_eq (a b:ByteArray) (ha:a.size≤1048576) (hb:b.size≤1048576):Ev (fun k=>by_.f k a b) (cmpN a b):=by
 have la:=labels_len a
 have lb:=labels_len b
 unfold by_.f
 refine Ev.bind' _ (labelsOf_eq a ha) (Ev.bind' _ (labelsOf_eq b hb) (Ev.bind' _ (reverse_eq _ (by omega)) (Ev.bind' _ (reverse_eq _ (by omega)) (Ev.bind' _ (sliceCompare_eq _ _ (by simp;omega) (by simp;omega)) (Ev.const rfl)))))
theorem nameOk_labels {s:ByteArray} (h:nameOk s=true):(labels s).all labelOk=true∧(bts s).length≤60:=by
 unfold nameOk at h
 simp only[Bool.and_eq_true,decide_eq_true_eq] at h
 exact⟨h.2,h.1.1⟩
def covN (o n x:ByteArray):Bool:=decide (cmpN o x<0)&&(decide (cmpN n o≤0)||decide (cmpN x n<0))
theorem spec8Covers_eq (o n x:ByteArray) (l:List Int) (ho:o.size≤1048576) (hn:n.size≤1048576) (hx:x.size≤1048576) (go:(labels o).all labelOk=true) (gn:(labels n).all labelOk=true) (gx:(labels x).all labelOk=true):Ev (fun k=>spec_l8Covers.f k o n l x) (covN o n x):=by
 unfold spec_l8Covers.f covN
 refine Ev.bind' _ (specCompare_eq o x ho hx go gx) ?_
 by_cases h1:cmpN o x≥0
 ·exact Ev.pos h1 (Ev.const (by have:¬cmpN o x<0:=(by omega);simp[this]))
 ·refine Ev.neg h1 (Ev.bind' _ (specCompare_eq n o hn ho gn go) ?_)
  have h1':cmpN o x<0:=by omega
  by_cases h2:cmpN n o≤0
  ·exact Ev.pos h2 (Ev.const (by simp[h1',h2]))
  ·exact Ev.neg h2 (Ev.bind' _ (specCompare_eq x n hx hn gx gn) (Ev.const (by simp[h1',h2])))
theorem covers_eq (o n x:ByteArray) (l:List Int) (ho:o.size≤1048576) (hn:n.size≤1048576) (hx:x.size≤1048576):Ev (fun k=>impl_covers.f k o n l x) (covN o n x):=by
 unfold impl_covers.f covN
 refine Ev.bind' _ (compareNames_eq o x ho hx) ?_
 by_cases h1:cmpN o x≥0
 ·exact Ev.pos h1 (Ev.const (by have:¬cmpN o x<0:=(by omega);simp[this]))
 ·refine Ev.neg h1 (Ev.bind' _ (compareNames_eq n o hn ho) ?_)
  have h1':cmpN o x<0:=by omega
  by_cases h2:cmpN n o≤0
  ·exact Ev.pos h2 (Ev.const (by simp[h1',h2]))
  ·exact Ev.neg h2 (Ev.bind' _ (compareNames_eq x n hx hn) (Ev.const (by simp[h1',h2])))
def hitG (g:aD_) (x:ByteArray):Bool:=decide (bts g.f0=bts x)||covN g.f0 g.f1 x
def gapZ:aD_:=⟨(⟨#[]⟩:ByteArray),(⟨#[]⟩:ByteArray),[]⟩
theorem cloneI_eq (l:List Int) (h:l.length≤1048576):cN_.f l=some l:=by
 unfold cN_.f
 rw[Option.bind_some,if_pos (by simp;omega)]
 simp
theorem gapFor_eq (l:List aD_) (x:ByteArray) (hl:l.length≤1048576) (hx:x.size≤1048576) (hs:∀g∈l,g.f0.size≤1048576∧g.f1.size≤1048576∧g.f2.length≤1048576) :
  Ev (fun k=>bX_.f k l x) (((l.find? (fun g=>hitG g x)).getD gapZ).f0,((l.find? (fun g=>hitG g x)).getD gapZ).f1,((l.find? (fun g=>hitG g x)).getD gapZ).f2):=by
 unfold bX_.f
 refine Ev.eq_ (a1_ l (fun k (_:Unit) i=>bX_.l0 k x l (l.length:Int) i) (fun _ t=>(((t.find? (fun g=>hitG g x)).getD gapZ).f0,((t.find? (fun g=>hitG g x)).getD gapZ).f1,((t.find? (fun g=>hitG g x)).getD gapZ).f2)) (fun _ _=>True) ?_ ?_ () trivial) rfl
 ·intro _ _
  apply Ev.succ
  simp only[bX_.l0]
  exact Ev.neg (by omega) (Ev.const rfl)
 ·intro p g t _ e _ ih
  have hm:=a7_ e
  have hg:=hs g (cF_ e)
  have own:impl_ownGap.f g.f0 g.f1 g.f2=some (g.f0,g.f1,g.f2):=by
   unfold impl_ownGap.f
   rw[cloneI_eq _ hg.2.2]
   rfl
  apply Ev.succ
  simp only[bX_.l0,af_,bP_ e,aT_]
  rw[w64 (i:=(p.length:Int)+1) (by omega) (by omega)]
  refine Ev.pos hm.1 (Ev.pos (by omega) (Ev.pos hm.1 ?_))
  by_cases h1:bts g.f0=bts x
  ·refine Ev.pos h1 (Ev.cbind _ own (Ev.const ?_))
   rw[List.find?_cons_of_pos (by simp[hitG,h1])]
   rfl
  ·refine Ev.neg h1 (Ev.bind' _ (covers_eq g.f0 g.f1 x g.f2 hg.1 hg.2.1 hx) ?_)
   cases hc:covN g.f0 g.f1 x with
   | true =>
    refine Ev.aK_ (Ev.cbind _ own (Ev.const ?_))
    rw[List.find?_cons_of_pos (by simp[hitG,hc])]
    rfl
   | false =>
    refine Ev.aJ_ (Ev.eq_ (ih () trivial) ?_)
    rw[List.find?_cons_of_neg (by simp[hitG,hc,h1])]
theorem l8For_eq (l:List aD_) (x:ByteArray) (hl:l.length≤1048576) (hx:x.size≤1048576) (gx:(labels x).all labelOk=true) (hs:∀g∈l,(g.f0.size≤1048576∧(labels g.f0).all labelOk=true)∧(g.f1.size≤1048576∧(labels g.f1).all labelOk=true)) :
  Ev (fun k=>cb_.f k l x) (if 0≤idxP (fun g=>hitG g x) l then idxP (fun g=>hitG g x) l else 0):=by
 unfold cb_.f
 refine Ev.eq_ (a1_ l (fun k (_:Nat) i=>cb_.l0 k x l (l.length:Int) i) (fun n t=>if 0≤idxP (fun g=>hitG g x) t then(n:Int)+idxP (fun g=>hitG g x) t else 0) (fun p n=>n=p.length) ?_ ?_ 0 rfl) ?_
 ·intro n hn
  apply Ev.succ
  simp only[cb_.l0]
  exact Ev.neg (by omega) (Ev.const (by simp[idxP]))
 ·intro p g t n e hn ih
  have hm:=a7_ e
  obtain⟨⟨g1,g2⟩,g3,g4⟩:=hs g (cF_ e)
  have hq:idxP (fun g=>hitG g x) (g::t)=(if hitG g x then 0 else if 0≤idxP (fun g=>hitG g x) t then idxP (fun g=>hitG g x) t+1 else -1):=rfl
  apply Ev.succ
  simp only[cb_.l0,af_,bP_ e,aT_]
  rw[w64 (i:=(p.length:Int)+1) (by omega) (by omega),hq]
  refine Ev.pos hm.1 (Ev.pos (by omega) (Ev.pos hm.1 ?_))
  by_cases h1:bts g.f0=bts x
  ·exact Ev.pos h1 (Ev.const (by simp[hitG,h1,hn]))
  ·refine Ev.neg h1 (Ev.bind' _ (spec8Covers_eq g.f0 g.f1 x g.f2 g1 g3 hx g2 g4 gx) ?_)
   cases hc:covN g.f0 g.f1 x with
   | true=>exact Ev.aK_ (Ev.const (by simp[hitG,hc,hn]))
   | false =>
    refine Ev.aJ_ (Ev.eq_ (ih (n+1) (by simp;omega)) ?_)
    have hh:hitG g x=false:=by simp[hitG,hc,h1]
    rw[hh]
    generalize idxP (fun g=>hitG g x) t=q
    simp only[Bool.false_eq_true,if_false]
    repeat' split
    all_goals omega
 ·simp
theorem numberIn_eq (s:ByteArray) (hs:s.size≤1048576) (most:Int) (hm:most≤9999999999):∃v,ck_.f s most=some (v,numOk (bts s) most)∧(numOk (bts s) most=true→v=numOf (bts s)):=by
 unfold ck_.f
 rw[if_pos (by omega)]
 have h:=number_in (bts s) most hm
 have e:bts s=s.data.toList:=rfl
 rw[e] at h ⊢
 cases hA:Go.Lib.atoiAll s.data.toList with
 | ok v =>
  rw[hA] at h
  simp only at h ⊢
  exact⟨v,by rw[h.1],h.2⟩
 | range =>
  rw[hA] at h
  simp only at h ⊢
  exact⟨_,by rw[h],fun h2=>by rw[h] at h2;cases h2⟩
 | _ =>
  rw[hA] at h
  simp only at h ⊢
  exact⟨0,by rw[h],fun h2=>by rw[h] at h2;cases h2⟩
theorem l1Int_eq (s:ByteArray) (hs:s.size≤1048576):Ev (fun k=>bb_.f k s) (numOf (bts s)):=by
 have hz:=be_ s
 unfold bb_.f
 refine Ev.cbind _ (l1In_eq _ _ _) ?_
 have hend:∀b,b=true→numOf (bts s) = -1→Ev (fun k=>bb_.j0 k s b) (numOf (bts s)):=by
  intro b hb hn
  subst hb
  apply Ev.succ
  simp only[bb_.j0]
  exact Ev.pos (by first|rfl|trivial) (Ev.const (by rw[hn]))
 cases hr:inR (s.size:Int) 1 10 with
 | false =>
  refine Ev.aJ_ (hend true rfl ?_)
  unfold inR at hr
  simp only[Bool.and_eq_false_iff,decide_eq_false_iff_not] at hr
  unfold numOf
  rw[if_neg]
  rintro⟨h1,h2⟩
  have:bts s≠[]:=by
   intro e
   rw[e] at h1
   simp[isNumeral] at h1
  have h3:0<(bts s).length:=List.length_pos_iff.mpr this
  omega
 | true =>
  refine Ev.aK_ ?_
  unfold inR at hr
  simp only[Bool.and_eq_true,decide_eq_true_eq] at hr
  refine Ev.pos (by omega) ?_
  obtain⟨b,t,e⟩:∃b t,bts s=b::t:=by
   cases h:bts s with
   | nil =>
    have h0:(bts s).length=0:=by rw[h];rfl
    omega
   | cons b t=>exact⟨b,t,rfl⟩
  have hb0:bt s 0=(b.toNat:Int):=bt_mid (p:=[]) e
  have loop:(bts s).length≤10→Ev (fun k=>bb_.l0 k s 0 0) (if (bts s).all isDg=true then(valF 0 (bts s):Int) else -1):=by
   intro h10
   refine Ev.eq_ (a1_ (bts s) (fun k (st:Nat) i=>bb_.l0 k s (st:Int) i) (fun st u=>if u.all isDg=true then(valF st u:Int) else -1) (fun p st=>st<10 ^ p.length) ?_ ?_ 0 (by simp)) rfl
   ·intro st hst
    apply Ev.succ
    simp only[bb_.l0]
    exact Ev.neg (by omega) (Ev.const (by simp[valF_nil]))
   ·intro p c u st e2 hst ih
    have hm:=a7_ e2
    have hp:10 ^ p.length≤10 ^ 9:=Nat.pow_le_pow_right (by decide) (by omega)
    apply Ev.succ
    simp only[bb_.l0]
    refine Ev.pos (by omega) (Ev.pos (by omega) ?_)
    rw[bt_mid e2,w64 (i:=(p.length:Int)+1) (by omega) (by omega),w64 (i:=10 * (st:Int)) (by omega) (by omega)]
    by_cases h1:c.toNat<48
    ·refine Ev.pos (by omega) (Ev.const ?_)
     have:isDg c=false:=by unfold isDg;simp;omega
     simp[this]
    ·refine Ev.neg (by omega) ?_
     by_cases h2:c.toNat > 57
     ·refine Ev.pos (by omega) (Ev.const ?_)
      have:isDg c=false:=by unfold isDg;simp;omega
      simp[this]
     ·refine Ev.neg (by omega) ?_
      have hd:isDg c=true:=by unfold isDg;simp;omega
      have e3:wrap64 (10 * (st:Int)+((c.toNat:Int) - 48) % 256)=((10 * st+(c.toNat - 48):Nat):Int):=by
       rw[w64 (by omega) (by omega)]
       omega
      rw[e3]
      refine Ev.eq_ (ih (10 * st+(c.toNat - 48)) ?_) ?_
      ·simp only[List.length_append,List.length_cons,List.length_nil,Nat.pow_succ]
       omega
      ·simp[hd,valF_cons]
  have h10:(bts s).length≤10:=by omega
  rw[hb0]
  by_cases h48:(b.toNat:Int)=48
  ·refine Ev.pos h48 ?_
   have hb:b=48:=by
    apply UInt8.toNat_inj.mp
    have h2:(48:UInt8).toNat=48:=rfl
    omega
   by_cases ht:t=[]
   ·have h1:(s.size:Int)=1:=by rw[hz,e,ht];rfl
    have hd:decide ((s.size:Int) > 1)=false:=by simp;omega
    rw[hd]
    apply Ev.succ
    simp only[bb_.j0]
    refine Ev.aJ_ (Ev.eq_ (loop h10) ?_)
    rw[e,ht,hb]
    decide
   ·have hl:2≤(bts s).length:=by
     rw[e]
     have:=List.length_pos_iff.mpr ht
     simp only[List.length_cons]
     omega
    have hd:decide ((s.size:Int) > 1)=true:=by simp;omega
    rw[hd]
    refine hend true rfl ?_
    unfold numOf
    rw[if_neg]
    rintro⟨h1,h2⟩
    rw[e] at h1 hl
    simp only[List.length_cons] at hl
    simp[isNumeral,hb] at h1
    have:=h1.2
    subst this
    simp at hl
  ·refine Ev.neg h48 ?_
   apply Ev.succ
   simp only[bb_.j0]
   refine Ev.aJ_ (Ev.eq_ (loop h10) ?_)
   have hne:b≠48:=fun h=>h48 (by rw[h];rfl)
   unfold numOf isNumeral
   rw[e]
   have hl:(b::t).length≤10:=by rw[←e];exact h10
   cases ha:(b::t).all isDg<;>simp[ha,hne,hl]<;>simp_all
def byt1 (n:Int):ByteArray:=strOfNums [n % 256]
def byt2 (n:Int):ByteArray:=strOfNums [n / 256 % 256,n % 256]
def byt4 (n:Int):ByteArray:=strOfNums [n / 16777216 % 256,n / 65536 % 256,n / 256 % 256,n % 256]
theorem number1_eq (n:Int):Ev (fun k=>aN_.f k n 1) (byt1 n):=by
 unfold aN_.f
 refine Ev.pos (by omega) (Ev.pos (by decide) ?_)
 rw[w64 (by omega) (by omega)]
 show Ev (fun k=>aN_.l0 k n [0] 0) _
 apply Ev.succ
 simp only[aN_.l0]
 refine Ev.pos (by omega) (Ev.pos (by omega) (Ev.pos (by decide) ?_))
 rw[w64 (by omega) (by omega)]
 apply Ev.succ
 simp only[aN_.l0]
 exact Ev.neg (by omega) (Ev.const rfl)
theorem number2_eq (n:Int):Ev (fun k=>aN_.f k n 2) (byt2 n):=by
 unfold aN_.f
 refine Ev.pos (by omega) (Ev.pos (by decide) ?_)
 rw[w64 (by omega) (by omega)]
 show Ev (fun k=>aN_.l0 k n [0,0] 1) _
 apply Ev.succ
 simp only[aN_.l0]
 refine Ev.pos (by omega) (Ev.pos (by omega) (Ev.pos (by decide) ?_))
 rw[w64 (by omega) (by omega)]
 show Ev (fun k=>aN_.l0 k (n / 256) [0,n % 256] 0) _
 apply Ev.succ
 simp only[aN_.l0]
 refine Ev.pos (by omega) (Ev.pos (by omega) (Ev.pos (by simp) ?_))
 rw[w64 (by omega) (by omega)]
 apply Ev.succ
 simp only[aN_.l0]
 exact Ev.neg (by omega) (Ev.const rfl)
theorem number4_eq (n:Int):Ev (fun k=>aN_.f k n 4) (byt4 n):=by
 unfold aN_.f
 refine Ev.pos (by omega) (Ev.pos (by decide) ?_)
 rw[w64 (by omega) (by omega)]
 show Ev (fun k=>aN_.l0 k n [0,0,0,0] 3) _
 apply Ev.succ
 simp only[aN_.l0]
 refine Ev.pos (by omega) (Ev.pos (by omega) (Ev.pos (by decide) ?_))
 rw[w64 (by omega) (by omega)]
 show Ev (fun k=>aN_.l0 k (n / 256) [0,0,0,n % 256] 2) _
 apply Ev.succ
 simp only[aN_.l0]
 refine Ev.pos (by omega) (Ev.pos (by omega) (Ev.pos (by simp) ?_))
 rw[w64 (by omega) (by omega)]
 show Ev (fun k=>aN_.l0 k (n / 256 / 256) [0,0,n / 256 % 256,n % 256] 1) _
 apply Ev.succ
 simp only[aN_.l0]
 refine Ev.pos (by omega) (Ev.pos (by omega) (Ev.pos (by simp) ?_))
 rw[w64 (by omega) (by omega)]
 show Ev (fun k=>aN_.l0 k (n / 256 / 256 / 256) [0,n / 256 / 256 % 256,n / 256 % 256,n % 256] 0) _
 apply Ev.succ
 simp only[aN_.l0]
 refine Ev.pos (by omega) (Ev.pos (by omega) (Ev.pos (by simp) ?_))
 rw[w64 (by omega) (by omega)]
 apply Ev.succ
 simp only[aN_.l0]
 refine Ev.neg (by omega) (Ev.const ?_)
 show some (strOfNums [n / 256 / 256 / 256 % 256,n / 256 / 256 % 256,n / 256 % 256,n % 256])=some (byt4 n)
 unfold byt4
 rw[show n / 16777216=n / 256 / 256 / 256 by omega,show n / 65536=n / 256 / 256 by omega]
theorem shr_at (x:Int) (y:Int) (n:Nat) (hn:y=(n:Int)) (h:n≤64):shr .i64 x y=x / 2 ^ n:=by
 unfold shr
 subst hn
 rw[show min ((n:Int)).toNat IntKind.i64.bits=n from by simp only[Int.toNat_natCast];exact Nat.min_eq_left h]
theorem big1_eq (n:Int):Ev (fun k=>bg_.f k n 1) (byt1 n):=by
 unfold bg_.f
 rw[w64 (by omega) (by omega)]
 show Ev (fun k=>bg_.l0 k n [] 0) _
 apply Ev.succ
 simp only[bg_.l0]
 rw[w64 (by omega) (by omega),w64 (by omega) (by omega),shr_at n (8 * 0) 0 rfl (by omega)]
 refine Ev.pos (by omega) (Ev.pos (by omega) (Ev.pos (by decide) ?_))
 apply Ev.succ
 simp only[bg_.l0]
 refine Ev.neg (by omega) (Ev.const ?_)
 simp[byt1]
theorem big2_eq (n:Int):Ev (fun k=>bg_.f k n 2) (byt2 n):=by
 unfold bg_.f
 rw[w64 (by omega) (by omega)]
 show Ev (fun k=>bg_.l0 k n [] 1) _
 apply Ev.succ
 simp only[bg_.l0]
 rw[w64 (by omega) (by omega),w64 (by omega) (by omega),shr_at n (8 * 1) 8 rfl (by omega)]
 refine Ev.pos (by omega) (Ev.pos (by omega) (Ev.pos (by decide) ?_))
 show Ev (fun k=>bg_.l0 k n [n / 2 ^ 8 % 256] 0) _
 apply Ev.succ
 simp only[bg_.l0]
 rw[w64 (by omega) (by omega),w64 (by omega) (by omega),shr_at n (8 * 0) 0 rfl (by omega)]
 refine Ev.pos (by omega) (Ev.pos (by omega) (Ev.pos (by simp) ?_))
 apply Ev.succ
 simp only[bg_.l0]
 refine Ev.neg (by omega) (Ev.const ?_)
 simp[byt2]
theorem big4_eq (n:Int):Ev (fun k=>bg_.f k n 4) (byt4 n):=by
 unfold bg_.f
 rw[w64 (by omega) (by omega)]
 show Ev (fun k=>bg_.l0 k n [] 3) _
 apply Ev.succ
 simp only[bg_.l0]
 rw[w64 (by omega) (by omega),w64 (by omega) (by omega),shr_at n (8 * 3) 24 rfl (by omega)]
 refine Ev.pos (by omega) (Ev.pos (by omega) (Ev.pos (by decide) ?_))
 show Ev (fun k=>bg_.l0 k n [n / 2 ^ 24 % 256] 2) _
 apply Ev.succ
 simp only[bg_.l0]
 rw[w64 (by omega) (by omega),w64 (by omega) (by omega),shr_at n (8 * 2) 16 rfl (by omega)]
 refine Ev.pos (by omega) (Ev.pos (by omega) (Ev.pos (by simp) ?_))
 show Ev (fun k=>bg_.l0 k n [n / 2 ^ 24 % 256,n / 2 ^ 16 % 256] 1) _
 apply Ev.succ
 simp only[bg_.l0]
 rw[w64 (by omega) (by omega),w64 (by omega) (by omega),shr_at n (8 * 1) 8 rfl (by omega)]
 refine Ev.pos (by omega) (Ev.pos (by omega) (Ev.pos (by simp) ?_))
 show Ev (fun k=>bg_.l0 k n [n / 2 ^ 24 % 256,n / 2 ^ 16 % 256,n / 2 ^ 8 % 256] 0) _
 apply Ev.succ
 simp only[bg_.l0]
 rw[w64 (by omega) (by omega),w64 (by omega) (by omega),shr_at n (8 * 0) 0 rfl (by omega)]
 refine Ev.pos (by omega) (Ev.pos (by omega) (Ev.pos (by simp) ?_))
 apply Ev.succ
 simp only[bg_.l0]
 refine Ev.neg (by omega) (Ev.const ?_)
 simp[byt4]
theorem aC_.idx (l0:List Int) (q:Int→Bool) (hl:l0.length≤1048576) (h:∀x∈l0,Ev (fun k=>impl_DataBytes_1.f x) (q x)):Ev (fun k=>aC_.f k l0 ) (idxP q l0):=by
 unfold aC_.f
 refine Ev.eq_ (a1_ l0 (fun k (_:Nat) i=>aC_.l0 k l0 (l0.length:Int) i) (fun n t=>if 0≤idxP q t then(n:Int)+idxP q t else -1) (fun p n=>n=p.length) ?_ ?_ 0 rfl) ?_
 ·intro n hn
  apply Ev.succ
  simp only[aC_.l0]
  exact Ev.neg (by omega) (Ev.const (by simp[idxP]))
 ·intro p x t n e hn ih
  have hm:=a7_ e
  have hx:=h x (cF_ e)
  apply Ev.succ
  simp only[aC_.l0,rd_mid' e]
  refine Ev.pos hm.1 (Ev.pos (by omega) (Ev.pos hm.1 (Ev.bind' _ hx ?_)))
  have hq:idxP q (x::t)=(if q x then 0 else if 0≤idxP q t then idxP q t+1 else -1):=rfl
  rw[hq]
  cases q x with
  | true=>exact Ev.aK_ (Ev.const (by simp[hn]))
  | false =>
   refine Ev.aJ_ ?_
   rw[w64 (by omega) (by omega)]
   refine Ev.eq_ (ih (n+1) (by simp[hn])) ?_
   by_cases h2:0≤idxP q t
   ·simp[h2];omega
   ·simp[h2]
 ·by_cases h2:0≤idxP q l0
  ·simp[h2]
  ·rw[if_neg h2]
   exact(idxP_neg q l0 h2).symm
theorem aS_.any (l0:List Int) (q:Int→Bool) (hl:l0.length≤1048576) (h:∀x∈l0,Ev (fun k=>impl_DataBytes_1.f x) (q x)):Ev (fun k=>aS_.f k l0 ) (l0.any q):=by
 unfold aS_.f
 refine Ev.bind' _ (aC_.idx l0  q hl h) (Ev.const ?_)
 rw[idxP_nonneg]
def targetOk (s:ByteArray):Bool := !decide (bts s=[])&&nameOk s&&(labels s).all (fun x => !decide (bts x=[42]))
theorem splitC_mem (c:UInt8):∀(l cur:List UInt8) (b:UInt8),b∈cur∨b∈l→b=c∨∃x∈splitC c cur l,b∈bts x
 | [],cur,b,h=>by
  rcases h with h|h
  ·exact Or.inr ⟨⟨cur.toArray⟩,by simp[splitC],by rw[ch_];exact h⟩
  ·cases h
 | a::l,cur,b,h=>by
  unfold splitC
  by_cases ha:a=c
  ·rw[if_pos ha]
   rcases h with h|h
   ·exact Or.inr ⟨_,List.mem_cons_self,by rw[ch_];exact h⟩
   ·rcases List.mem_cons.mp h with h|h
    ·exact Or.inl (h.trans ha)
    ·rcases splitC_mem c l [] b (Or.inr h) with h2|⟨x,hx,h2⟩
     ·exact Or.inl h2
     ·exact Or.inr ⟨x,List.mem_cons_of_mem _ hx,h2⟩
  ·rw[if_neg ha]
   refine splitC_mem c l (cur++[a]) b ?_
   rcases h with h|h
   ·exact Or.inl (by simp[h])
   ·rcases List.mem_cons.mp h with h|h
    ·exact Or.inl (by simp[h])
    ·exact Or.inr h
theorem splitC_sub (c:UInt8):∀(l cur:List UInt8) (x:ByteArray) (b:UInt8),x∈splitC c cur l→b∈bts x→b∈cur∨b∈l
 | [],cur,x,b,hx,hb=>by
  simp only[splitC,List.mem_singleton] at hx
  subst hx
  rw[ch_] at hb
  exact Or.inl hb
 | a::l,cur,x,b,hx,hb=>by
  unfold splitC at hx
  by_cases ha:a=c
  ·rw[if_pos ha] at hx
   rcases List.mem_cons.mp hx with rfl|h
   ·rw[ch_] at hb;exact Or.inl hb
   ·rcases splitC_sub c l [] x b h hb with h2|h2
    ·cases h2
    ·exact Or.inr (List.mem_cons_of_mem _ h2)
  ·rw[if_neg ha] at hx
   rcases splitC_sub c l (cur++[a]) x b hx hb with h2|h2
   ·rcases List.mem_append.mp h2 with h3|h3
    ·exact Or.inl h3
    ·simp only[List.mem_singleton] at h3
     exact Or.inr (by rw[h3];exact List.mem_cons_self)
   ·exact Or.inr (List.mem_cons_of_mem _ h2)
theorem labelOk_in {x:ByteArray} (h:labelOk x=true) {b:UInt8} (hb:b∈bts x):bts x=[42]∨okB b=true:=by
 unfold labelOk at h
 simp only[Bool.or_eq_true,decide_eq_true_eq,Bool.and_eq_true,List.all_eq_true] at h
 rcases h with h|h
 ·exact Or.inl h
 ·exact Or.inr (h.1 b hb)
theorem star_label {s:ByteArray} (h:nameOk s=true):(42:UInt8)∈bts s↔∃x∈labels s,bts x=[42]:=by
 have hl:(labels s).all labelOk=true:=by
  unfold nameOk at h
  simp only[Bool.and_eq_true] at h
  exact h.2
 rw[List.all_eq_true] at hl
 unfold labels at hl ⊢
 by_cases he:bts s=[]
 ·rw[if_pos he];simp[he]
 ·rw[if_neg he] at hl ⊢
  constructor
  ·intro hm
   rcases splitC_mem 46 (bts s) [] 42 (Or.inr hm) with h2|⟨x,hx,hb⟩
   ·cases h2
   ·refine⟨x,hx,?_⟩
    rcases labelOk_in (hl x hx) hb with h3|h3
    ·exact h3
    ·exact absurd h3 (by decide)
  ·rintro⟨x,hx,hb⟩
   rcases splitC_sub 46 (bts s) [] x 42 hx (by rw[hb];simp) with h2|h2
   ·cases h2
   ·exact h2
theorem index_ge (l:List UInt8) (c:UInt8):decide (Go.Lib.indexByte l c≥0)=decide (c∈l):=by
 by_cases h:0<Go.Lib.countByte l c
 ·obtain⟨pre,post,e,_,hi,_⟩:=index_some l c h
  rw[hi]
  have:c∈l:=by rw[e];simp
  simp[this]
 ·obtain⟨h1,h2⟩:=index_none l c (by omega)
  rw[h2]
  simp[h1]
theorem hasByte_eq (s:ByteArray) (c:UInt8):strings_Contains.f s (⟨#[c]⟩:ByteArray)=some (decide (c∈bts s)):=by
 unfold strings_Contains.f cP_.f
 rw[if_pos (by rfl)]
 simp only[Option.bind_some]
 show some (decide (Go.Lib.indexByte (bts s) c≥0))=_
 rw[index_ge]
theorem bne_dec (a b:List UInt8):(a != b) = !decide (a=b):=by
 by_cases h:a=b
 ·simp[h]
 ·rw[bne_iff_ne.mpr h];simp[h]
theorem isTarget_eq (s:ByteArray) (hs:s.size≤1048576):Ev (fun k=>impl_isTarget.f k s) (targetOk s):=by
 unfold impl_isTarget.f targetOk
 rw[aT_]
 by_cases h:bts s=[]
 ·exact Ev.pos h (Ev.const (by simp[h]))
 ·refine Ev.neg h (Ev.bind' _ (implGoodName_eq s hs) ?_)
  cases hn:nameOk s with
  | false=>exact Ev.aJ_ (Ev.const (by simp))
  | true =>
   refine Ev.aK_ (Ev.cbind _ (hasByte_eq s 42) (Ev.const ?_))
   have hst:=star_label hn
   rw[Option.some.injEq,Bool.eq_iff_iff]
   simp only[h,decide_false,Bool.not_false,Bool.true_and,Bool.and_true,Bool.not_eq_true',decide_eq_false_iff_not,List.all_eq_true,Bool.not_eq_true',hst]
   constructor
   ·intro h2 x hx h3
    exact h2 ⟨x,hx,h3⟩
   ·rintro h2 ⟨x,hx,h3⟩
    exact h2 x hx h3
theorem specTarget_eq (s:ByteArray) (hs:s.size≤1048576):Ev (fun k=>bw_.f k s) (targetOk s):=by
 unfold bw_.f
 refine Ev.bind' _ (specLabels_eq s hs) ?_
 have hll:=labels_len s
 have main:∀(L:List ByteArray),L.length≤1048577→∀ok:Bool,Ev (fun k=>bw_.l0 k s ok L (L.length:Int) 0) (ok&&L.all (fun x => !decide (bts x=[42])) && !decide (bts s=[])):=by
  intro L hL ok
  refine a1_ L (fun k (o:Bool) i=>bw_.l0 k s o L (L.length:Int) i) (fun o t=>o&&t.all (fun x => !decide (bts x=[42])) && !decide (bts s=[])) (fun _ _=>True) ?_ ?_ ok trivial
  ·intro o _
   apply Ev.succ
   simp only[bw_.l0]
   refine Ev.neg (by omega) ?_
   cases o with
   | false=>exact Ev.aJ_ (Ev.const (by simp))
   | true=>exact Ev.aK_ (Ev.const (by rw[aT_];by_cases h:bts s=[]<;>simp[h]))
  ·intro p x t o e _ ih
   have hm:=a7_ e
   apply Ev.succ
   simp only[bw_.l0,cR_ e]
   refine Ev.pos hm.1 (Ev.pos (by omega) (Ev.pos hm.1 ?_))
   rw[w64 (i:=(p.length:Int)+1) (by omega) (by omega),aT_]
   cases o with
   | false=>exact Ev.aJ_ (Ev.eq_ (ih false trivial) (by simp))
   | true =>
    refine Ev.aK_ (Ev.eq_ (ih _ trivial) ?_)
    rw[bne_dec]
    simp
 unfold targetOk nameOk
 by_cases h:(labels s).all labelOk=true
 ·rw[if_pos h]
  refine Ev.eq_ (main (labels s) (by omega) _) ?_
  simp only[h]
  cases decide ((bts s).length≤60)<;>cases decide ((labels s).length≤8)<;>cases decide (bts s=[])<;>simp
 ·rw[if_neg h]
  refine Ev.eq_ (main [] (by simp) false) ?_
  simp[h]
def wireB (s:ByteArray):ByteArray:=(labels s).foldl (fun a x=>a++(strOfNums [(x.size:Int) % 256]++x)) (⟨#[]⟩:ByteArray)
theorem nameOk_labels' {s:ByteArray} (h:nameOk s=true):(labels s).all labelOk=true:=by
 unfold nameOk at h
 simp only[Bool.and_eq_true] at h
 exact h.2
theorem target_name {s:ByteArray} (h:targetOk s=true):nameOk s=true:=by
 unfold targetOk at h
 simp only[Bool.and_eq_true] at h
 exact h.1.2
theorem nameOk_small {s:ByteArray} (h:nameOk s=true):s.size≤60∧(labels s).length≤8∧∀x∈labels s,x.size≤60:=by
 unfold nameOk at h
 simp only[Bool.and_eq_true,decide_eq_true_eq] at h
 have hz:=be_ s
 refine⟨by omega,h.1.2,fun x hx=>?_⟩
 have:=labels_sizes s x hx
 omega
theorem sz_app (a b:ByteArray):(a++b).size=a.size+b.size:=ByteArray.size_append
theorem wire_step (a x:ByteArray) (n:Nat) (ha:a.size≤61 * n) (hx:x.size≤60) (hn:n≤8):(strOfNums [(x.size:Int) % 256]).size+x.size≤9223372036854775807∧a.size+(strOfNums [(x.size:Int) % 256]++x).size≤9223372036854775807∧(a++(strOfNums [(x.size:Int) % 256]++x)).size≤61 * (n+1):=by
 have h1:(strOfNums [(x.size:Int) % 256]).size=1:=strOfNums_size _
 simp only[sz_app,h1]
 omega
theorem empty_le:(⟨#[]⟩:ByteArray).size≤61 * ([]:List ByteArray).length:=by decide
theorem labelBytes_eq (s:ByteArray) (h:nameOk s=true):Ev (fun k=>bu_.f k s) (wireB s)∧(wireB s).size≤488:=by
 obtain⟨h1,h2,h3⟩:=nameOk_small h
 have hw:∀(t p:List ByteArray) (a:ByteArray),labels s=p++t→a.size≤61 * p.length→(t.foldl (fun a x=>a++(strOfNums [(x.size:Int) % 256]++x)) a).size≤61 * 8:=by
  intro t
  induction t with
  | nil =>
   intro p a e ha
   simp only[List.foldl_nil]
   have:p.length≤8:=by rw[e] at h2;simpa using h2
   omega
  | cons x t ih =>
   intro p a e ha
   rw[List.foldl_cons]
   have hp:(labels s).length=p.length+(t.length+1):=by rw[e];simp
   have:=wire_step a x p.length ha (h3 x (by rw[e];simp)) (by omega)
   exact ih (p++[x]) (a++(strOfNums [(x.size:Int) % 256]++x)) (by rw[e];simp) (by rw[show(p++[x]).length=p.length+1 from by simp];exact this.2.2)
 have h8:=hw (labels s) [] (⟨#[]⟩:ByteArray) (List.nil_append _).symm empty_le
 refine⟨?_,by unfold wireB;exact h8⟩
 unfold bu_.f wireB
 refine Ev.bind' _ (labelsOf_eq s (by omega)) ?_
 refine Ev.eq_ (a1_ (labels s) (fun k (a:ByteArray) i=>bu_.l0 k a (labels s) ((labels s).length:Int) i) (fun a t=>t.foldl (fun a x=>a++(strOfNums [(x.size:Int) % 256]++x)) a) (fun p a=>a.size≤61 * p.length) ?_ ?_ (⟨#[]⟩:ByteArray) empty_le) rfl
 ·intro a _
  apply Ev.succ
  simp only[bu_.l0]
  exact Ev.neg (by omega) (Ev.const rfl)
 ·intro p x t a e ha ih
  have hm:=a7_ e
  obtain⟨g1,g2,g3⟩:=wire_step a x p.length ha (h3 x (cF_ e)) (by omega)
  apply Ev.succ
  simp only[bu_.l0,cR_ e]
  refine Ev.pos hm.1 (Ev.pos (by omega) (Ev.pos hm.1 (Ev.cbind [(x.size:Int) % 256] rfl (Ev.pos g1 (Ev.pos g2 ?_)))))
  rw[w64 (i:=(p.length:Int)+1) (by omega) (by omega)]
  exact ih (a++(strOfNums [(x.size:Int) % 256]++x)) (by rw[show(p++[x]).length=p.length+1 from by simp];exact g3)
theorem l2Bytes_eq (s:ByteArray) (h:nameOk s=true):Ev (fun k=>bR_.f k s) (wireB s++(⟨#[0]⟩:ByteArray)):=by
 obtain⟨h1,h2,h3⟩:=nameOk_small h
 unfold bR_.f wireB
 have hl:(labels s).all labelOk=true:=(nameOk_labels' h)
 have hsl:=specLabels_eq s (by omega)
 rw[if_pos hl] at hsl
 refine Ev.bind' _ hsl ?_
 refine Ev.eq_ (a1_ (labels s) (fun k (a:ByteArray) i=>bR_.l0 k a (labels s) ((labels s).length:Int) i) (fun a t=>t.foldl (fun a x=>a++(strOfNums [(x.size:Int) % 256]++x)) a++(⟨#[0]⟩:ByteArray)) (fun p a=>a.size≤61 * p.length) ?_ ?_ (⟨#[]⟩:ByteArray) empty_le) rfl
 ·intro a ha
  apply Ev.succ
  simp only[bR_.l0]
  exact Ev.neg (by omega) (Ev.pos (by omega) (Ev.const rfl))
 ·intro p x t a e ha ih
  have hm:=a7_ e
  obtain⟨g1,g2,g3⟩:=wire_step a x p.length ha (h3 x (cF_ e)) (by omega)
  apply Ev.succ
  simp only[bR_.l0,cR_ e]
  refine Ev.pos hm.1 (Ev.pos (by omega) (Ev.pos hm.1 (Ev.cbind [(x.size:Int) % 256] rfl (Ev.pos g1 (Ev.pos g2 ?_)))))
  rw[w64 (i:=(p.length:Int)+1) (by omega) (by omega)]
  exact ih (a++(strOfNums [(x.size:Int) % 256]++x)) (by rw[show(p++[x]).length=p.length+1 from by simp];exact g3)
def cutB (c:UInt8):List UInt8→Option (List UInt8 × List UInt8)
 | []=>none
 | b::t=>if b=c then some ([],t) else(cutB c t).map (fun p=>(b::p.1,p.2))
theorem cutB_none {c:UInt8}:∀{l:List UInt8},cutB c l=none→c∉l
 | [],_=>by simp
 | b::t,h=>by
  unfold cutB at h
  by_cases hb:b=c
  ·rw[if_pos hb] at h;cases h
  ·rw[if_neg hb] at h
   simp only[Option.map_eq_none_iff] at h
   have:=cutB_none h
   intro hm
   rcases List.mem_cons.mp hm with e|e
   ·exact hb e.symm
   ·exact this e
theorem cutB_some {c:UInt8}:∀{l p q:List UInt8},cutB c l=some (p,q)→l=p++c::q∧c∉p
 | [],p,q,h=>by cases h
 | b::t,p,q,h=>by
  unfold cutB at h
  by_cases hb:b=c
  ·rw[if_pos hb] at h
   simp only[Option.some.injEq,Prod.mk.injEq] at h
   obtain⟨rfl,rfl⟩:=h
   exact⟨by rw[hb];rfl,by simp⟩
  ·rw[if_neg hb] at h
   simp only[Option.map_eq_some_iff,Prod.mk.injEq,Prod.exists] at h
   obtain⟨p',q',h1,rfl,rfl⟩:=h
   obtain⟨h2,h3⟩:=cutB_some h1
   refine⟨by rw[h2];rfl,?_⟩
   intro hm
   rcases List.mem_cons.mp hm with e|e
   ·exact hb e.symm
   ·exact h3 e
theorem splitC_ne (c:UInt8):∀(l cur:List UInt8),splitC c cur l≠[]
 | [],cur=>by simp[splitC]
 | b::l,cur=>by
  unfold splitC
  split
  ·simp
  ·exact splitC_ne c l _
theorem splitC_two (c:UInt8):∀(l cur:List UInt8),c∈l→2≤(splitC c cur l).length
 | [],cur,h=>by cases h
 | b::l,cur,h=>by
  unfold splitC
  by_cases hb:b=c
  ·rw[if_pos hb]
   have:=List.length_pos_iff.mpr (splitC_ne c l [])
   simp only[List.length_cons]
   omega
  ·rw[if_neg hb]
   rcases List.mem_cons.mp h with e|e
   ·exact absurd e.symm hb
   ·exact splitC_two c l _ e
theorem specSplitC_eq (c:UInt8) (s:ByteArray) (hs:s.size≤1048576):Ev (fun k=>bp_.f k s (c.toNat:Int)) (splitC c [] (bts s)):=by
 unfold bp_.f
 have hz:=be_ s
 refine Ev.eq_ (a1_ (bts s) (fun k (st:List ByteArray × Nat × List UInt8) i=>bp_.l0 k s (c.toNat:Int) st.1 st.2.1 i) (fun st t=>st.1++splitC c st.2.2 t) (fun p st=>st.2.1≤p.length∧st.2.2=p.drop st.2.1∧st.1.length≤p.length) ?_ ?_ ([],0,[]) ⟨Nat.zero_le _,rfl,Nat.zero_le _⟩) (by simp)
 ·rintro⟨acc,fr,cur⟩ ⟨h1,h2,h3⟩
  apply Ev.succ
  simp only[bp_.l0]
  simp only at h1 h2 h3
  refine Ev.neg (by omega) (Ev.pos (by omega) (Ev.pos (by omega) (Ev.pos (by omega) (Ev.const ?_))))
  simp only[splitC]
  rw[extract_bts,h2]
  congr 4
  rw[List.take_of_length_le]
  ·simp
  ·simp[hz]
 ·rintro p b t ⟨acc,fr,cur⟩ e ⟨h1,h2,h3⟩ ih
  have hm:=a7_ e
  simp only at h1 h2 h3
  apply Ev.succ
  simp only[bp_.l0]
  refine Ev.pos (by omega) (Ev.pos (by omega) ?_)
  rw[bt_mid e,w64 (i:=(p.length:Int)+1) (by omega) (by omega)]
  by_cases hb:b=c
  ·subst hb
   refine Ev.pos (by rfl) (Ev.pos (by omega) (Ev.pos (by omega) (Ev.pos (by omega) (Ev.pos (by omega) ?_))))
   have hx:s.extract ((fr:Nat):Int).toNat ((p.length:Nat):Int).toNat=⟨cur.toArray⟩:=by
    rw[extract_bts,h2]
    congr 2
    rw[e]
    simp only[Int.toNat_natCast]
    rw[List.drop_append_of_le_length h1,List.take_append_of_le_length (by simp),List.take_of_length_le (by simp)]
   rw[hx]
   have hc:((p.length:Int)+1)=(((p.length+1:Nat)):Int):=by omega
   refine Ev.eq_ (ih (acc++[⟨cur.toArray⟩],p.length+1,[]) ⟨by simp,by simp,by simp;omega⟩) ?_
   simp[splitC]
  ·have:¬((b.toNat:Int)=(c.toNat:Int)):=by
    intro h
    apply hb
    apply UInt8.toNat_inj.mp
    omega
   refine Ev.neg this ?_
   refine Ev.eq_ (ih (acc,fr,cur++[b]) ⟨by simp;omega,?_,by simp;omega⟩) ?_
   ·simp only
    rw[h2,List.drop_append_of_le_length h1]
   ·simp[splitC,hb]
def partsA (s:ByteArray):List ByteArray:=splitC 46 [] (bts s)
def aOk (s:ByteArray):Bool:=(partsA s).all (fun x=>numOk (bts x) 255)&&decide ((partsA s).length=4)
def aB (s:ByteArray):ByteArray:=(partsA s).foldl (fun a x=>a++byt1 (numOf (bts x))) (⟨#[]⟩:ByteArray)
def mxOk (s:ByteArray):Bool:=match cutB 32 (bts s) with
 | some (p,q)=>numOk p 65535&&targetOk ⟨q.toArray⟩
 | none=>false
def mxB (s:ByteArray):ByteArray:=match cutB 32 (bts s) with
 | some (p,q)=>byt2 (numOf p)++(wireB ⟨q.toArray⟩++(⟨#[0]⟩:ByteArray))
 | none=>(⟨#[]⟩:ByteArray)
def txtC (b:UInt8):Bool:=decide (32≤b.toNat)&&decide (b.toNat≤126)
def txtOk (s:ByteArray):Bool:=(bts s).all txtC&&decide ((bts s).length≤30)
def dataOk (kind:Int) (s:ByteArray):Bool :=
 if kind=1 then aOk s else if kind=2∨kind=5 then targetOk s else if kind=6 then numOk (bts s) 4294967295 else if kind=15 then mxOk s else if kind=16 then txtOk s else false
def dataB (kind:Int) (s:ByteArray):ByteArray :=
 if kind=1 then aB s else if kind=2∨kind=5 then wireB s++(⟨#[0]⟩:ByteArray) else if kind=6 then byt4 (numOf (bts s)) else if kind=15 then mxB s else if kind=16 then byt1 (s.size:Int)++s else(⟨#[]⟩:ByteArray)
theorem byt1_size (n:Int):(byt1 n).size=1:=strOfNums_size _
theorem byt2_size (n:Int):(byt2 n).size=2:=strOfNums_size _
theorem parts_len (s:ByteArray):(partsA s).length≤s.size+1:=by
 have hz:=be_ s
 have:=splitC_len 46 (bts s) []
 unfold partsA
 omega
theorem parts_size {s x:ByteArray} (h:x∈partsA s):x.size≤s.size:=by
 have hz:=be_ s
 have:=splitC_sizes 46 (bts s) [] x h
 simp at this
 omega
theorem in255 (l:List UInt8) (m:Int):inR (numOf l) 0 m=numOk l m:=by
 unfold inR numOk
 by_cases h1:0≤numOf l<;>by_cases h2:numOf l≤m<;>simp[h1,h2]
theorem specA_eq (s:ByteArray) (hs:s.size≤1048576):∃B,Ev (fun k=>ai_.f k 1 s) (B,aOk s)∧(aOk s=true→B=aB s):=by
 have hl:=parts_len s
 have main:Ev (fun k=>ai_.f k 1 s) (if (partsA s).all (fun x=>numOk (bts x) 255)=true then(aB s,(((partsA s).length:Int)==4)) else((⟨#[]⟩:ByteArray),false)):=by
  unfold ai_.f
  refine Ev.pos rfl (Ev.bind' (partsA s) (specSplitC_eq 46 s hs) ?_)
  unfold aB
  refine Ev.eq_ (a1_ (partsA s) (fun k (a:ByteArray) i=>ai_.l0 k a (partsA s) (partsA s) ((partsA s).length:Int) i) (fun a t=>if t.all (fun x=>numOk (bts x) 255)=true then(t.foldl (fun a x=>a++byt1 (numOf (bts x))) a,(((partsA s).length:Int)==4)) else((⟨#[]⟩:ByteArray),false)) (fun p a=>a.size≤p.length) ?_ ?_ (⟨#[]⟩:ByteArray) (Nat.le_refl 0)) rfl
  ·intro a ha
   apply Ev.succ
   simp only[ai_.l0]
   exact Ev.neg (by omega) (Ev.const (by simp))
  ·intro p x t a e ha ih
   have hm:=a7_ e
   have hx:=parts_size (cF_ e)
   apply Ev.succ
   simp only[ai_.l0,cR_ e]
   refine Ev.pos hm.1 (Ev.pos (by omega) (Ev.pos hm.1 (Ev.bind' (numOf (bts x)) (l1Int_eq x (by omega)) (Ev.cbind _ (l1In_eq _ _ _) ?_))))
   rw[in255]
   cases hn:numOk (bts x) 255 with
   | false=>exact Ev.aJ_ (Ev.const (by simp[hn]))
   | true =>
    have h1:=byt1_size (numOf (bts x))
    refine Ev.aK_ (Ev.bind' (byt1 (numOf (bts x))) (number1_eq _) (Ev.pos (by omega) ?_))
    rw[w64 (i:=(p.length:Int)+1) (by omega) (by omega)]
    refine Ev.eq_ (ih (a++byt1 (numOf (bts x))) (by rw[sz_app,h1];simp;omega)) ?_
    simp[hn]
 refine⟨if (partsA s).all (fun x=>numOk (bts x) 255)=true then aB s else(⟨#[]⟩:ByteArray),Ev.eq_ main ?_,?_⟩
 ·unfold aOk
  by_cases h:(partsA s).all (fun x=>numOk (bts x) 255)=true
  ·rw[if_pos h,if_pos h,h]
   by_cases h4:(partsA s).length=4
   ·simp[h4]
   ·have:¬(((partsA s).length:Int)=4):=by omega
    simp[h4,this]
  ·rw[if_neg h,if_neg h]
   simp[h]
 ·intro h
  unfold aOk at h
  simp only[Bool.and_eq_true] at h
  rw[if_pos h.1]
theorem implA_eq (s:ByteArray) (hs:s.size≤1048576):Ev (fun k=>aI_.f k 1 s) (if aOk s=true then(aB s,true) else((⟨#[]⟩:ByteArray),false)):=by
 have hl:=parts_len s
 unfold aI_.f
 have hsp:Ev (fun k=>strings_Split.f k s (⟨#[46]⟩:ByteArray)) (partsA s):=strSplit_eq s hs
 refine Ev.pos rfl (Ev.bind' (partsA s) hsp ?_)
 unfold aB
 have hne:partsA s≠[]:=splitC_ne 46 (bts s) []
 by_cases h4:(partsA s).length=4
 ·refine Ev.eq_ (a1_ (partsA s) (fun k (a:ByteArray) i=>aI_.l0 k a (partsA s) (partsA s) ((partsA s).length:Int) i) (fun a t=>if t.all (fun x=>numOk (bts x) 255)=true then(t.foldl (fun a x=>a++byt1 (numOf (bts x))) a,true) else((⟨#[]⟩:ByteArray),false)) (fun p a=>a.size≤p.length) ?_ ?_ (⟨#[]⟩:ByteArray) (Nat.le_refl 0)) ?_
  ·intro a ha
   apply Ev.succ
   simp only[aI_.l0]
   exact Ev.neg (by omega) (Ev.const (by simp))
  ·intro p x t a e ha ih
   have hm:=a7_ e
   have hx:=parts_size (cF_ e)
   obtain⟨v,hv,hv2⟩:=numberIn_eq x (by omega) 255 (by omega)
   apply Ev.succ
   simp only[aI_.l0,cR_ e]
   refine Ev.pos hm.1 (Ev.pos (by omega) (Ev.pos hm.1 (Ev.cbind _ hv ?_)))
   cases hn:numOk (bts x) 255 with
   | false=>exact Ev.aJ_ (Ev.const (by simp[hn]))
   | true =>
    have hvn:=hv2 hn
    subst hvn
    have h1:=byt1_size (numOf (bts x))
    refine Ev.aK_ (Ev.pos (by omega) (Ev.bind' (byt1 (numOf (bts x))) (big1_eq _) (Ev.pos (by omega) ?_)))
    rw[w64 (i:=(p.length:Int)+1) (by omega) (by omega)]
    refine Ev.eq_ (ih (a++byt1 (numOf (bts x))) (by rw[sz_app,h1];simp;omega)) ?_
    simp[hn]
  ·unfold aOk
   simp[h4]
 ·obtain⟨x,t,e⟩:∃x t,partsA s=x::t:=by
   cases h:partsA s with
   | nil=>exact absurd h hne
   | cons x t=>exact⟨x,t,rfl⟩
  have hx:=parts_size (s:=s) (x:=x) (by rw[e];simp)
  obtain⟨v,hv,hv2⟩:=numberIn_eq x (by omega) 255 (by omega)
  have hno:aOk s=false:=by unfold aOk;simp[h4]
  have hr:rdOf ByteArray.empty (partsA s) 0=x:=cR_ (p:=[]) e
  have hp:0<(partsA s).length:=List.length_pos_iff.mpr hne
  apply Ev.succ
  simp only[aI_.l0,hr,hno]
  refine Ev.pos (by omega) (Ev.pos (by omega) (Ev.pos (by omega) (Ev.cbind _ hv ?_)))
  cases hn:numOk (bts x) 255 with
  | false=>exact Ev.aJ_ (Ev.const rfl)
  | true=>exact Ev.aK_ (Ev.neg (by omega) (Ev.const rfl))
theorem strCut32 (s:ByteArray) (hs:s.size≤1048576):strings_Cut.f s (⟨#[32]⟩:ByteArray)=some (match cutB 32 (bts s) with
  | some (p,q)=>(⟨p.toArray⟩,⟨q.toArray⟩,true)
  | none=>(s,⟨#[]⟩,false)):=by
 have hz:=be_ s
 unfold strings_Cut.f stringslite_Cut.f b1_.f
 rw[if_pos (by rfl),show Go.Lib.indexByte s.data.toList ((⟨#[32]⟩:ByteArray).data.toList.headD 0)=Go.Lib.indexByte (bts s) 32 from rfl]
 simp only[Option.bind_some]
 cases hc:cutB 32 (bts s) with
 | none =>
  have hn:=cutB_none hc
  have hcnt:¬0<Go.Lib.countByte (bts s) 32:=by
   intro h
   obtain⟨pre,post,e,_⟩:=index_some (bts s) 32 h
   exact hn (by rw[e];simp)
  obtain⟨_,hi⟩:=index_none (bts s) 32 (by omega)
  rw[hi,if_neg (by omega)]
  rfl
 | some pq =>
  obtain⟨p,q⟩:=pq
  obtain⟨e,hp⟩:=cutB_some hc
  have hcnt:0<Go.Lib.countByte (bts s) 32:=by
   rcases Nat.eq_zero_or_pos (Go.Lib.countByte (bts s) 32) with h|h
   ·exact absurd (by rw[e];simp:(32:UInt8)∈bts s) (index_none (bts s) 32 h).1
   ·exact h
  obtain⟨pre,post,e2,hp2,hi,_⟩:=index_some (bts s) 32 hcnt
  have hpre:pre=p∧post=q:=by
   have:=e2.symm.trans e
   have h1:=splitC_pre 32 post pre [] hp2
   have h2:=splitC_pre 32 q p [] hp
   clear hi e e2 hcnt hc hz
   induction pre generalizing p with
   | nil =>
    cases p with
    | nil=>simp at this;exact⟨rfl,this⟩
    | cons a p=>simp at this;exact absurd this.1 (fun h=>hp (by simp[h]))
   | cons a pre ih =>
    cases p with
    | nil=>simp at this;exact absurd this.1 (fun h=>hp2 (by simp[h]))
    | cons b p =>
     simp only[List.cons_append,List.cons.injEq] at this
     obtain⟨rfl,this⟩:=this
     have:=ih p (fun h=>hp (List.mem_cons_of_mem _ h)) (fun h=>hp2 (List.mem_cons_of_mem _ h)) this (splitC_pre 32 post pre [] (fun h=>hp2 (List.mem_cons_of_mem _ h))) (splitC_pre 32 q p [] (fun h=>hp (List.mem_cons_of_mem _ h)))
     exact⟨by rw[this.1],this.2⟩
  obtain⟨rfl,rfl⟩:=hpre
  have hlen:(bts s).length=pre.length+(post.length+1):=by rw[e];simp
  have h1:((⟨#[32]⟩:ByteArray).size:Int)=1:=rfl
  rw[hi,h1,w64 (i:=(pre.length:Int)+1) (by omega) (by omega),if_pos (by omega),if_pos (by omega),if_pos (by omega),if_pos (by omega),if_pos (by omega)]
  simp only[Option.bind_some]
  have x1:s.extract 0 ((pre.length:Int)).toNat=⟨pre.toArray⟩:=by
   rw[extract_bts]
   congr 2
   rw[e]
   simp
  have x2:s.extract (((pre.length:Int)+1)).toNat s.size=⟨post.toArray⟩:=by
   rw[extract_bts]
   congr 2
   have e':bts s=(pre++[32])++post:=by simpa using e
   have h1:(((pre.length:Int)+1)).toNat=(pre++[32]).length:=by simp<;>omega
   rw[e',h1,List.drop_left,List.take_of_length_le]
   simp at hlen ⊢
   omega
  rw[x1,x2]
theorem nameOk_byte {s:ByteArray} (h:nameOk s=true) {b:UInt8} (hb:b∈bts s):b=46∨b=42∨okB b=true:=by
 have hl:=nameOk_labels' h
 rw[List.all_eq_true] at hl
 unfold labels at hl
 by_cases he:bts s=[]
 ·rw[he] at hb;cases hb
 ·rw[if_neg he] at hl
  rcases splitC_mem 46 (bts s) [] b (Or.inr hb) with h2|⟨x,hx,h2⟩
  ·exact Or.inl h2
  ·rcases labelOk_in (hl x hx) h2 with h3|h3
   ·rw[h3] at h2
    simp only[List.mem_singleton] at h2
    exact Or.inr (Or.inl h2)
   ·exact Or.inr (Or.inr h3)
theorem target_no32 {s:ByteArray} (h:(32:UInt8)∈bts s):targetOk s=false:=by
 cases ht:targetOk s with
 | false=>rfl
 | true =>
  rcases nameOk_byte (target_name ht) h with h2|h2|h2
  ·cases h2
  ·cases h2
  ·exact absurd h2 (by decide)
theorem target_empty:targetOk (⟨#[]⟩:ByteArray)=false:=by
 unfold targetOk
 have:bts (⟨#[]⟩:ByteArray)=[]:=rfl
 simp[this]
theorem wireB_small {s:ByteArray} (h:targetOk s=true):(wireB s).size≤488:=(labelBytes_eq s (target_name h)).2
def tgt (kind:Int):Bool:=decide (kind=2∨kind=5)
theorem specJ1_eq (kind:Int) (s:ByteArray) (hs:s.size≤1048576) (h1:kind≠1):∃B,Ev (fun k=>ai_.j1 k s kind (tgt kind)) (B,dataOk kind s)∧(dataOk kind s=true→B=dataB kind s):=by
 have hz:=be_ s
 unfold dataOk dataB
 rw[if_neg h1,if_neg h1]
 by_cases ht:kind=2∨kind=5
 ·rw[if_pos ht,if_pos ht,show tgt kind=true from decide_eq_true ht]
  cases hk:targetOk s with
  | false =>
   refine⟨(⟨#[]⟩:ByteArray),Ev.succ ?_,fun h=>by cases h⟩
   ·simp only[ai_.j1]
    refine Ev.pos (by first|rfl|trivial) (Ev.bind' _ (specTarget_eq s hs) ?_)
    rw[hk]
    exact Ev.aJ_ (Ev.const rfl)
  | true =>
   refine⟨_,Ev.succ ?_,fun _=>rfl⟩
   simp only[ai_.j1]
   refine Ev.pos (by first|rfl|trivial) (Ev.bind' _ (specTarget_eq s hs) ?_)
   rw[hk]
   exact Ev.aK_ (Ev.bind' _ (l2Bytes_eq s (target_name hk)) (Ev.const rfl))
 ·rw[if_neg ht,if_neg ht,show tgt kind=false from decide_eq_false ht]
  by_cases h6:kind=6
  ·rw[if_pos h6,if_pos h6]
   refine⟨byt4 (numOf (bts s)),Ev.succ ?_,fun _=>rfl⟩
   simp only[ai_.j1]
   refine Ev.neg (by simp) (Ev.pos h6 (Ev.bind' _ (l1Int_eq s hs) (Ev.bind' _ (number4_eq _) (Ev.cbind _ (l1In_eq _ _ _) (Ev.const ?_)))))
   rw[in255]
  ·rw[if_neg h6,if_neg h6]
   by_cases h15:kind=15
   ·rw[if_pos h15,if_pos h15]
    have step:∀r,Ev (fun k=>if ((splitC 32 [] (bts s)).length:Int)=2 then(if 0<((splitC 32 [] (bts s)).length:Int) then((bb_.f k (rdOf ByteArray.empty (splitC 32 [] (bts s)) 0)).bind fun t175=>((b0_.f t175 0 65535).bind fun t176=>(if t176=true then(if 1<((splitC 32 [] (bts s)).length:Int) then((bw_.f k (rdOf ByteArray.empty (splitC 32 [] (bts s)) 1)).bind fun t178=>(ai_.j2 k (splitC 32 [] (bts s)) (!t178))) else(none)) else(ai_.j2 k (splitC 32 [] (bts s)) true)))) else(none)) else(ai_.j2 k (splitC 32 [] (bts s)) true)) r→Ev (fun k=>ai_.j1 k s kind false) r:=by
     intro r h
     apply Ev.succ
     simp only[ai_.j1]
     exact Ev.neg (by simp) (Ev.neg h6 (Ev.pos h15 (Ev.bind' _ (specSplitC_eq 32 s hs) h)))
    have hbad:∀L,Ev (fun k=>ai_.j2 k L true) ((⟨#[]⟩:ByteArray),false):=by
     intro L
     apply Ev.succ
     simp only[ai_.j2]
     exact Ev.pos (by first|rfl|trivial) (Ev.const rfl)
    unfold mxOk mxB
    cases hc:cutB 32 (bts s) with
    | none =>
     refine⟨(⟨#[]⟩:ByteArray),step _ ?_,fun h=>by cases h⟩
     ·rw[splitC_none 32 (bts s) [] (cutB_none hc)]
      exact Ev.neg (by simp) (hbad _)
    | some pq =>
     obtain⟨p,q⟩:=pq
     obtain⟨e,hp⟩:=cutB_some hc
     have hlen:(bts s).length=p.length+(q.length+1):=by rw[e];simp
     have hsp:splitC 32 [] (bts s)=⟨p.toArray⟩::splitC 32 [] q:=by
      rw[e,splitC_pre 32 q p [] hp]
      rfl
     simp only
     by_cases hq:(32:UInt8)∈q
     ·have htq:targetOk ⟨q.toArray⟩=false:=target_no32 (by rw[ch_];exact hq)
      rw[htq,Bool.and_false]
      refine⟨(⟨#[]⟩:ByteArray),step _ ?_,fun h=>by cases h⟩
      ·have h2:=splitC_two 32 q [] hq
       rw[hsp]
       exact Ev.neg (by simp only[List.length_cons];omega) (hbad _)
     ·rw[splitC_none 32 q [] hq] at hsp
      have hps:(⟨p.toArray⟩:ByteArray).size≤1048576:=by rw[be_,ch_];omega
      have hqs:(⟨q.toArray⟩:ByteArray).size≤1048576:=by rw[be_,ch_];omega
      have hsp2:splitC 32 [] (bts s)=[⟨p.toArray⟩,⟨q.toArray⟩]:=hsp
      have r0:rdOf ByteArray.empty ([⟨p.toArray⟩,⟨q.toArray⟩]:List ByteArray) 0=⟨p.toArray⟩:=rfl
      have r1:rdOf ByteArray.empty ([⟨p.toArray⟩,⟨q.toArray⟩]:List ByteArray) 1=⟨q.toArray⟩:=rfl
      have hn:=l1Int_eq ⟨p.toArray⟩ hps
      rw[ch_] at hn
      cases hk:numOk p 65535&&targetOk ⟨q.toArray⟩ with
      | false =>
       refine⟨(⟨#[]⟩:ByteArray),step _ ?_,fun h=>by cases h⟩
       ·rw[hsp2,r0,r1]
        refine Ev.pos (by simp) (Ev.pos (by simp) (Ev.bind' _ hn (Ev.cbind _ (l1In_eq _ _ _) ?_)))
        rw[in255]
        cases hp2:numOk p 65535 with
        | false=>exact Ev.aJ_ (hbad _)
        | true =>
         rw[hp2,Bool.true_and] at hk
         refine Ev.aK_ (Ev.pos (by simp) (Ev.bind' _ (specTarget_eq _ hqs) ?_))
         rw[hk]
         exact hbad _
      | true =>
       simp only[Bool.and_eq_true] at hk
       refine⟨byt2 (numOf p)++(wireB ⟨q.toArray⟩++(⟨#[0]⟩:ByteArray)),step _ ?_,fun _=>rfl⟩
       rw[hsp2,r0,r1]
       refine Ev.pos (by simp) (Ev.pos (by simp) (Ev.bind' _ hn (Ev.cbind _ (l1In_eq _ _ _) ?_)))
       rw[in255,hk.1]
       refine Ev.aK_ (Ev.pos (by simp) (Ev.bind' _ (specTarget_eq _ hqs) ?_))
       rw[hk.2]
       apply Ev.succ
       simp only[ai_.j2,r0,r1]
       have hw:=wireB_small hk.2
       have h0:(⟨#[0]⟩:ByteArray).size=1:=rfl
       have hb2:=byt2_size (numOf p)
       refine Ev.neg (by simp) (Ev.pos (by simp) (Ev.bind' _ hn (Ev.bind' _ (number2_eq _) (Ev.pos (by simp) (Ev.bind' _ (l2Bytes_eq _ (target_name hk.2)) (Ev.pos ?_ (Ev.const rfl)))))))
       rw[sz_app,h0,hb2]
       omega
   ·rw[if_neg h15,if_neg h15]
    by_cases h16:kind=16
    ·rw[if_pos h16,if_pos h16]
     have main:Ev (fun k=>ai_.l1 k s 0) (if (bts s).all txtC=true then(byt1 (s.size:Int)++s,decide ((s.size:Int)≤30)) else((⟨#[]⟩:ByteArray),false)):=by
      refine Ev.eq_ (a1_ (bts s) (fun k (_:Unit) i=>ai_.l1 k s i) (fun _ t=>if t.all txtC=true then(byt1 (s.size:Int)++s,decide ((s.size:Int)≤30)) else((⟨#[]⟩:ByteArray),false)) (fun _ _=>True) ?_ ?_ () trivial) rfl
      ·intro _ _
       apply Ev.succ
       simp only[ai_.l1]
       have hb1:(strOfNums [(s.size:Int) % 256]).size=1:=strOfNums_size _
       exact Ev.neg (by omega) (Ev.cbind _ rfl (Ev.pos (by omega) (Ev.const (by simp[byt1]))))
      ·intro p b t _ e _ ih
       have hm:=a7_ e
       apply Ev.succ
       simp only[ai_.l1]
       refine Ev.pos (by omega) (Ev.pos (by omega) ?_)
       rw[bt_mid e,w64 (i:=(p.length:Int)+1) (by omega) (by omega)]
       by_cases c1:(b.toNat:Int)<32
       ·refine Ev.pos c1 (Ev.const ?_)
        have:txtC b=false:=by unfold txtC;simp;omega
        simp[this]
       ·refine Ev.neg c1 ?_
        by_cases c2:(b.toNat:Int) > 126
        ·refine Ev.pos c2 (Ev.const ?_)
         have:txtC b=false:=by unfold txtC;simp;omega
         simp[this]
        ·refine Ev.neg c2 (Ev.eq_ (ih () trivial) ?_)
         have:txtC b=true:=by unfold txtC;simp;omega
         simp[this]
     have jj:∀r,Ev (fun k=>ai_.l1 k s 0) r→Ev (fun k=>ai_.j1 k s kind false) r:=by
      intro r h
      apply Ev.succ
      simp only[ai_.j1]
      exact Ev.neg (by simp) (Ev.neg h6 (Ev.neg h15 (Ev.pos h16 h)))
     refine⟨if (bts s).all txtC=true then byt1 (s.size:Int)++s else(⟨#[]⟩:ByteArray),jj _ (Ev.eq_ main ?_),?_⟩
     ·unfold txtOk
      by_cases ha:(bts s).all txtC=true
      ·rw[if_pos ha,if_pos ha,ha]
       have:decide ((s.size:Int)≤30)=decide ((bts s).length≤30):=decide_eq_decide.mpr (by omega)
       rw[this,Bool.true_and]
      ·rw[if_neg ha,if_neg ha]
       simp[ha]
     ·intro h
      unfold txtOk at h
      simp only[Bool.and_eq_true] at h
      rw[if_pos h.1]
    ·rw[if_neg h16]
     refine⟨(⟨#[]⟩:ByteArray),Ev.succ ?_,fun h=>by cases h⟩
     ·simp only[ai_.j1]
      exact Ev.neg (by simp) (Ev.neg h6 (Ev.neg h15 (Ev.neg h16 (Ev.const rfl))))
theorem specData_eq (kind:Int) (s:ByteArray) (hs:s.size≤1048576):∃B,Ev (fun k=>ai_.f k kind s) (B,dataOk kind s)∧(dataOk kind s=true→B=dataB kind s):=by
 by_cases h1:kind=1
 ·subst h1
  obtain⟨B,h2,h3⟩:=specA_eq s hs
  have e1:dataOk 1 s=aOk s:=by unfold dataOk;rw[if_pos rfl]
  have e2:dataB 1 s=aB s:=by unfold dataB;rw[if_pos rfl]
  rw[e1,e2]
  exact⟨B,h2,h3⟩
 ·obtain⟨B,h2,h3⟩:=specJ1_eq kind s hs h1
  refine⟨B,?_,h3⟩
  unfold ai_.f
  refine Ev.neg h1 ?_
  by_cases h22:kind=2
  ·refine Ev.pos h22 ?_
   have:(kind==2)=tgt kind:=by unfold tgt;simp[h22]
   rw[this]
   exact h2
  ·refine Ev.neg h22 ?_
   have:(kind==5)=tgt kind:=by
    unfold tgt
    by_cases h5:kind=5<;>simp[h22,h5]
   rw[this]
   exact h2
theorem txt_any (s:ByteArray):(bytesOf s).any (fun n=>decide (n<32)||decide (n > 126)) = !(bts s).all txtC:=by
 unfold bytesOf
 show((bts s).map fun b=>(b.toNat:Int)).any _=_
 rw[List.any_map]
 induction bts s with
 | nil=>rfl
 | cons b t ih =>
  simp only[List.any_cons,List.all_cons,ih,Bool.not_and,Function.comp]
  congr 1
  unfold txtC
  by_cases h1:(b.toNat:Int)<32
  ·have h2:¬32≤b.toNat:=by omega
   simp[h1,h2]
  ·have h2:32≤b.toNat:=by omega
   by_cases h3:(b.toNat:Int) > 126
   ·have h4:¬b.toNat≤126:=by omega
    simp[h1,h2,h3,h4]
   ·have h4:b.toNat≤126:=by omega
    simp[h1,h2,h3,h4]
theorem implJ1_eq (kind:Int) (s:ByteArray) (hs:s.size≤1048576) (h1:kind≠1):Ev (fun k=>aI_.j1 k s kind (tgt kind)) (if dataOk kind s=true then(dataB kind s,true) else((⟨#[]⟩:ByteArray),false)):=by
 have hz:=be_ s
 have h0:(⟨#[0]⟩:ByteArray).size=1:=rfl
 unfold dataOk dataB
 rw[if_neg h1,if_neg h1]
 by_cases ht:kind=2∨kind=5
 ·rw[if_pos ht,if_pos ht,show tgt kind=true from decide_eq_true ht]
  apply Ev.succ
  simp only[aI_.j1]
  refine Ev.pos (by first|rfl|trivial) (Ev.bind' _ (isTarget_eq s hs) ?_)
  cases hk:targetOk s with
  | false=>exact Ev.aJ_ (Ev.const rfl)
  | true =>
   have hw:=labelBytes_eq s (target_name hk)
   exact Ev.aK_ (Ev.bind' _ hw.1 (Ev.pos (by have:=hw.2;omega) (Ev.const rfl)))
 ·rw[if_neg ht,if_neg ht,show tgt kind=false from decide_eq_false ht]
  by_cases h6:kind=6
  ·rw[if_pos h6,if_pos h6]
   obtain⟨v,hv,hv2⟩:=numberIn_eq s hs 4294967295 (by omega)
   apply Ev.succ
   simp only[aI_.j1]
   refine Ev.neg (by simp) (Ev.pos h6 (Ev.cbind _ hv ?_))
   cases hn:numOk (bts s) 4294967295 with
   | false=>exact Ev.aJ_ (Ev.const rfl)
   | true =>
    have:=hv2 hn
    subst this
    exact Ev.aK_ (Ev.bind' _ (big4_eq _) (Ev.const rfl))
  ·rw[if_neg h6,if_neg h6]
   have hbad:∀a b,Ev (fun k=>aI_.j2 k a b true) ((⟨#[]⟩:ByteArray),false):=by
    intro a b
    apply Ev.succ
    simp only[aI_.j2]
    exact Ev.pos (by first|rfl|trivial) (Ev.const rfl)
   by_cases h15:kind=15
   ·rw[if_pos h15,if_pos h15]
    unfold mxOk mxB
    have hcut:=strCut32 s hs
    cases hc:cutB 32 (bts s) with
    | none =>
     rw[hc] at hcut
     simp only at hcut
     obtain⟨v,hv,hv2⟩:=numberIn_eq s hs 65535 (by omega)
     apply Ev.succ
     simp only[aI_.j1]
     refine Ev.neg (by simp) (Ev.neg h6 (Ev.pos h15 (Ev.cbind _ hcut (Ev.cbind _ hv ?_))))
     cases hn:numOk (bts s) 65535 with
     | false=>exact Ev.aJ_ (Ev.eq_ (hbad _ _) rfl)
     | true =>
      refine Ev.aK_ (Ev.bind' _ (isTarget_eq (⟨#[]⟩:ByteArray) (by decide)) ?_)
      rw[target_empty]
      exact Ev.eq_ (hbad _ _) rfl
    | some pq =>
     obtain⟨p,q⟩:=pq
     rw[hc] at hcut
     simp only at hcut
     obtain⟨e,hp⟩:=cutB_some hc
     have hlen:(bts s).length=p.length+(q.length+1):=by rw[e];simp
     have hps:(⟨p.toArray⟩:ByteArray).size≤1048576:=by rw[be_,ch_];omega
     have hqs:(⟨q.toArray⟩:ByteArray).size≤1048576:=by rw[be_,ch_];omega
     obtain⟨v,hv,hv2⟩:=numberIn_eq ⟨p.toArray⟩ hps 65535 (by omega)
     rw[ch_] at hv hv2
     apply Ev.succ
     simp only[aI_.j1]
     refine Ev.neg (by simp) (Ev.neg h6 (Ev.pos h15 (Ev.cbind _ hcut (Ev.cbind _ hv ?_))))
     cases hn:numOk p 65535 with
     | false=>exact Ev.aJ_ (Ev.eq_ (hbad _ _) (by simp))
     | true =>
      have:=hv2 hn
      subst this
      refine Ev.aK_ (Ev.bind' _ (isTarget_eq _ hqs) ?_)
      cases hk:targetOk ⟨q.toArray⟩ with
      | false=>exact Ev.eq_ (hbad _ _) (by simp)
      | true =>
       have hw:=labelBytes_eq _ (target_name hk)
       have hb2:=byt2_size (numOf p)
       apply Ev.succ
       simp only[aI_.j2]
       refine Ev.neg (by simp) (Ev.bind' _ (big2_eq _) (Ev.bind' _ hw.1 (Ev.pos (by have:=hw.2;omega) (Ev.pos (by rw[sz_app,hb2];have:=hw.2;omega) (Ev.const ?_)))))
       simp[ByteArray.append_assoc]
   ·rw[if_neg h15,if_neg h15]
    by_cases h16:kind=16
    ·rw[if_pos h16,if_pos h16]
     apply Ev.succ
     simp only[aI_.j1]
     refine Ev.neg (by simp) (Ev.neg h6 (Ev.neg h15 (Ev.pos h16 ?_)))
     unfold txtOk
     by_cases h30:(s.size:Int) > 30
     ·refine Ev.pos h30 (Ev.const ?_)
      have:¬(bts s).length≤30:=by omega
      simp[this]
     ·have h30':(bts s).length≤30:=by omega
      refine Ev.neg h30 (Ev.pos (by omega) (Ev.bind' _ (aS_.any (bytesOf s) (fun n=>decide (n<32)||decide (n > 126)) (by rw[bytesOf_length];omega) ?_) ?_))
      ·intro n _
       unfold impl_DataBytes_1.f
       by_cases hn:n<32
       ·exact Ev.pos hn (Ev.const (by simp[hn]))
       ·exact Ev.neg hn (Ev.const (by simp[hn]))
      ·rw[txt_any]
       have hb1:=byt1_size (s.size:Int)
       cases ha:(bts s).all txtC with
       | false=>exact Ev.aK_ (Ev.const (by simp))
       | true=>exact Ev.aJ_ (Ev.bind' _ (big1_eq _) (Ev.pos (by omega) (Ev.const (by simp[h30']))))
    ·rw[if_neg h16]
     apply Ev.succ
     simp only[aI_.j1]
     exact Ev.neg (by simp) (Ev.neg h6 (Ev.neg h15 (Ev.neg h16 (Ev.const rfl))))
theorem implData_eq (kind:Int) (s:ByteArray) (hs:s.size≤1048576):Ev (fun k=>aI_.f k kind s) (if dataOk kind s=true then(dataB kind s,true) else((⟨#[]⟩:ByteArray),false)):=by
 by_cases h1:kind=1
 ·subst h1
  have e1:dataOk 1 s=aOk s:=by unfold dataOk;rw[if_pos rfl]
  have e2:dataB 1 s=aB s:=by unfold dataB;rw[if_pos rfl]
  rw[e1,e2]
  exact implA_eq s hs
 ·have h2:=implJ1_eq kind s hs h1
  unfold aI_.f
  refine Ev.neg h1 ?_
  by_cases h22:kind=2
  ·refine Ev.pos h22 ?_
   have:(kind==2)=tgt kind:=by unfold tgt;simp[h22]
   rw[this]
   exact h2
  ·refine Ev.neg h22 ?_
   have:(kind==5)=tgt kind:=by
    unfold tgt
    by_cases h5:kind=5<;>simp[h22,h5]
   rw[this]
   exact h2
theorem dataBytes_eq (kind:Int) (s:ByteArray) (hs:s.size≤1048576) (h:dataOk kind s=true):Ev (fun k=>impl_dataBytes.f k kind s) (dataB kind s):=by
 unfold impl_dataBytes.f
 have:=implData_eq kind s hs
 rw[if_pos h] at this
 exact Ev.bind' _ this (Ev.pos rfl (Ev.const rfl))
theorem numOk_len {l:List UInt8} {m:Int} (h:numOk l m=true):l.length≤10∧isNumeral l=true∧(valF 0 l:Int)≤m:=by
 unfold numOk numOf at h
 simp only[decide_eq_true_eq] at h
 by_cases hn:isNumeral l=true∧l.length≤10
 ·rw[if_pos hn] at h
  exact⟨hn.2,hn.1,h.2⟩
 ·rw[if_neg hn] at h
  omega
theorem numOk_digits {l:List UInt8} {m:Int} (n:Nat) (hn:1≤n) (hm:m<10 ^ n) (h:numOk l m=true):l.length≤n:=by
 obtain⟨h1,h2,h3⟩:=numOk_len h
 rcases Nat.lt_or_ge n l.length with h4|h4
 ·have:=numeral_great l h2 (by omega)
  have h5:10 ^ n≤10 ^ (l.length - 1):=Nat.pow_le_pow_right (by decide) (by omega)
  have h6:((10 ^ n:Nat):Int)≤((valF 0 l:Nat):Int):=by omega
  have h7:((10 ^ n:Nat):Int)=(10:Int) ^ n:=by simp
  omega
 ·exact h4
theorem splitC_total (c:UInt8):∀(l cur:List UInt8),cur.length+l.length+1=((splitC c cur l).map ByteArray.size).sum+(splitC c cur l).length
 | [],cur=>by
  simp only[splitC,List.map_cons,List.map_nil,List.sum_cons,List.sum_nil,List.length_cons,List.length_nil]
  rw[be_,ch_]
  omega
 | b::l,cur=>by
  unfold splitC
  by_cases hb:b=c
  ·rw[if_pos hb]
   have:=splitC_total c l []
   simp only[List.map_cons,List.sum_cons,List.length_cons,List.length_nil] at this ⊢
   rw[be_,ch_]
   omega
  ·rw[if_neg hb]
   have:=splitC_total c l (cur++[b])
   simp only[List.length_cons,List.length_append,List.length_nil] at this ⊢
   omega
theorem data_small {kind:Int} {s:ByteArray} (h:dataOk kind s=true):s.size≤100:=by
 have hz:=be_ s
 unfold dataOk at h
 split at h
 ·unfold aOk at h
  simp only[Bool.and_eq_true,decide_eq_true_eq,List.all_eq_true] at h
  have ht:=splitC_total 46 (bts s) []
  have h4:(splitC 46 [] (bts s)).length=4:=h.2
  have hs:∀x∈splitC 46 [] (bts s),x.size≤3:=by
   intro x hx
   have:=numOk_digits 3 (by omega) (by decide) (h.1 x hx)
   rw[be_]
   exact this
  have hsum:∀(L:List ByteArray),(∀x∈L,x.size≤3)→(L.map ByteArray.size).sum≤3 * L.length:=by
   intro L
   induction L with
   | nil=>intro _;simp
   | cons x t ih =>
    intro hL
    have h1:=hL x (by simp)
    have h2:=ih (fun y hy=>hL y (by simp[hy]))
    simp only[List.map_cons,List.sum_cons,List.length_cons]
    omega
  have:=hsum _ hs
  simp only[List.length_nil] at ht
  omega
 ·split at h
  ·have:=(nameOk_small (target_name h)).1
   omega
  ·split at h
   ·have:=(numOk_len h).1
    omega
   ·split at h
    ·unfold mxOk at h
     cases hc:cutB 32 (bts s) with
     | none=>rw[hc] at h;cases h
     | some pq =>
      obtain⟨p,q⟩:=pq
      rw[hc] at h
      simp only[Bool.and_eq_true] at h
      obtain⟨e,_⟩:=cutB_some hc
      have h1:=(numOk_len h.1).1
      have h2:=(nameOk_small (target_name h.2)).1
      rw[be_,ch_] at h2
      have hlen:(bts s).length=p.length+(q.length+1):=by rw[e];simp
      omega
    ·split at h
     ·unfold txtOk at h
      simp only[Bool.and_eq_true,decide_eq_true_eq] at h
      omega
     ·cases h
def recOk (a:ByteArray) (b c:Int) (d:ByteArray):Bool:=dataOk b d&&nameOk a&&inR c 0 100000
theorem specRec_eq (a:ByteArray) (b c:Int) (d:ByteArray) (ha:a.size≤1048576) (hd:d.size≤1048576):Ev (fun k=>cG_.f k a b c d) (recOk a b c d):=by
 unfold cG_.f recOk
 obtain⟨B,h1,h2⟩:=specData_eq b d hd
 refine Ev.bind' _ h1 ?_
 cases hk:dataOk b d with
 | false=>exact Ev.aJ_ (Ev.const rfl)
 | true =>
  refine Ev.aK_ (Ev.bind' _ (specGoodName_eq a ha) ?_)
  cases hn:nameOk a with
  | false=>exact Ev.aJ_ (Ev.const rfl)
  | true=>exact Ev.aK_ (Ev.cbind _ (l1In_eq _ _ _) (Ev.const (by simp)))
theorem implRec_eq (a:ByteArray) (b c:Int) (d:ByteArray) (ha:a.size≤1048576) (hd:d.size≤1048576):Ev (fun k=>cH_.f k a b c d) (recOk a b c d):=by
 unfold cH_.f recOk
 refine Ev.bind' _ (implGoodName_eq a ha) ?_
 cases hn:nameOk a with
 | false=>exact Ev.aJ_ (Ev.const (by simp))
 | true =>
  refine Ev.aK_ (Ev.cbind _ (within_eq _ _ _) ?_)
  cases hr:inR c 0 100000 with
  | false=>exact Ev.aJ_ (Ev.const (by simp))
  | true =>
   refine Ev.aK_ ?_
   by_cases h100:(d.size:Int) > 100
   ·refine Ev.pos h100 (Ev.const ?_)
    cases hk:dataOk b d with
    | false=>rfl
    | true=>have:=data_small hk;omega
   ·refine Ev.neg h100 (Ev.bind' _ (implData_eq b d hd) (Ev.const ?_))
    cases hk:dataOk b d<;>simp
def cmpI (a b:Int):Int:=if a<b then -1 else if a > b then 1 else 0
def cmpB (a b:List UInt8):Int:=if Op.bytesLess a b=true then -1 else if a=b then 0 else 1
def cmpRec (a b:aa_):Int :=
 if cmpN a.f0 b.f0=0 then(if a.f1=b.f1 then(if bts (dataB a.f1 a.f3)=bts (dataB b.f1 b.f3) then cmpI a.f2 b.f2
  else(if Op.bytesLess (bts (dataB a.f1 a.f3)) (bts (dataB b.f1 b.f3))=true then -1 else 1)) else(if a.f1<b.f1 then -1 else 1)) else cmpN a.f0 b.f0
def okR (r:aa_):Bool:=recOk r.f0 r.f1 r.f2 r.f3
def szR (r:aa_):Prop:=r.f0.size≤1048576∧r.f3.size≤1048576
theorem okR_data {r:aa_} (h:okR r=true):dataOk r.f1 r.f3=true:=by
 unfold okR recOk at h
 simp only[Bool.and_eq_true] at h
 exact h.1.1
theorem okR_name {r:aa_} (h:okR r=true):nameOk r.f0=true:=by
 unfold okR recOk at h
 simp only[Bool.and_eq_true] at h
 exact h.1.2
theorem less_eq (b:Bool):spec_l3Less.f b=some (if b=true then -1 else 1):=by
 unfold spec_l3Less.f
 split<;>rfl
theorem specCmpRec_eq (a b:aa_) (ha:szR a) (hb:szR b) (ga:okR a=true) (gb:okR b=true):Ev (fun k=>spec_l3Compare.f k a.f0 a.f1 a.f2 a.f3 b.f0 b.f1 b.f2 b.f3) (cmpRec a b):=by
 unfold spec_l3Compare.f
 refine Ev.bind' _ (specCompare_eq a.f0 b.f0 ha.1 hb.1 (nameOk_labels' (okR_name ga)) (nameOk_labels' (okR_name gb))) ?_
 by_cases hn:cmpN a.f0 b.f0=0
 ·refine Ev.pos hn ?_
  obtain⟨A,h1,h2⟩:=specData_eq a.f1 a.f3 ha.2
  obtain⟨B,h3,h4⟩:=specData_eq b.f1 b.f3 hb.2
  have hA:=h2 (okR_data ga)
  have hB:=h4 (okR_data gb)
  subst hA
  subst hB
  refine Ev.bind' _ h1 (Ev.bind' _ h3 ?_)
  simp only[aT_]
  by_cases ht:a.f1=b.f1
  ·refine Ev.pos ht ?_
   by_cases hd:bts (dataB a.f1 a.f3)=bts (dataB b.f1 b.f3)
   ·rw[show cmpRec a b=cmpI a.f2 b.f2 from by unfold cmpRec;rw[if_pos hn,if_pos ht,if_pos hd]]
    refine Ev.pos hd ?_
    unfold cmpI
    by_cases hq:a.f2=b.f2
    ·exact Ev.pos hq (Ev.const (by rw[hq];simp))
    ·refine Ev.neg hq (Ev.cbind _ (less_eq _) (Ev.const ?_))
     by_cases hl:a.f2<b.f2
     ·simp[hl]
     ·have:a.f2 > b.f2:=by omega
      simp[hl,this]
   ·rw[show cmpRec a b=(if Op.bytesLess (bts (dataB a.f1 a.f3)) (bts (dataB b.f1 b.f3))=true then -1 else 1) from by unfold cmpRec;rw[if_pos hn,if_pos ht,if_neg hd]]
    exact Ev.neg hd (Ev.cbind _ (less_eq _) (Ev.const rfl))
  ·rw[show cmpRec a b=(if a.f1<b.f1 then -1 else 1) from by unfold cmpRec;rw[if_pos hn,if_neg ht]]
   refine Ev.neg ht (Ev.cbind _ (less_eq _) (Ev.const ?_))
   by_cases hl:a.f1<b.f1<;>simp[hl]
 ·rw[show cmpRec a b=cmpN a.f0 b.f0 from by unfold cmpRec;rw[if_neg hn]]
  exact Ev.neg hn (Ev.const rfl)
theorem bytesLess_irr:∀(a:List UInt8),Op.bytesLess a a=false
 | []=>rfl
 | x::a=>by
  have h:¬x<x:=by simp
  unfold Op.bytesLess
  simp[h,bytesLess_irr a]
theorem compareBytes_eq:∀(a b:List UInt8),Go.Lib.compareBytes a b=cmpB a b
 | [],[]=>rfl
 | [],y::b=>rfl
 | x::a,[]=>by
  unfold Go.Lib.compareBytes cmpB
  have:Op.bytesLess (x::a) []=false:=rfl
  rw[this]
  simp
 | x::a,y::b=>by
  have ih:=compareBytes_eq a b
  unfold Go.Lib.compareBytes
  unfold cmpB at ih ⊢
  have e:Op.bytesLess (x::a) (y::b)=(decide (x<y)||(x==y&&Op.bytesLess a b)):=rfl
  rw[e]
  by_cases h1:x<y
  ·rw[if_pos h1];simp[h1]
  ·rw[if_neg h1]
   by_cases h2:y<x
   ·rw[if_pos h2]
    have h3:¬x=y:=by
     intro h
     subst h
     exact h1 h2
    simp[h1,h3]
   ·rw[if_neg h2]
    have h3:x=y:=by
     apply UInt8.toNat_inj.mp
     have h4:¬x.toNat<y.toNat:=fun h=>h1 (UInt8.lt_iff_toNat_lt.mpr h)
     have h5:¬y.toNat<x.toNat:=fun h=>h2 (UInt8.lt_iff_toNat_lt.mpr h)
     omega
    subst h3
    rw[ih]
    simp[h1]
def orI:List Int→Int
 | []=>0
 | x::t=>if x=0 then orI t else x
theorem cmpOr_eq (l:List Int) (hl:l.length≤1048576):Ev (fun k=>b9_.f k l) (orI l):=by
 unfold b9_.f
 refine Ev.eq_ (a1_ l (fun k (_:Unit) i=>b9_.l0 k 0 l (l.length:Int) i) (fun _ t=>orI t) (fun _ _=>True) ?_ ?_ () trivial) rfl
 ·intro _ _
  apply Ev.succ
  simp only[b9_.l0]
  exact Ev.neg (by omega) (Ev.const rfl)
 ·intro p x t _ e _ ih
  have hm:=a7_ e
  apply Ev.succ
  simp only[b9_.l0,rd_mid' e]
  refine Ev.pos hm.1 (Ev.pos (by omega) (Ev.pos hm.1 ?_))
  rw[w64 (i:=(p.length:Int)+1) (by omega) (by omega)]
  by_cases h:x=0
  ·exact Ev.pos h (Ev.eq_ (ih () trivial) (by simp[orI,h]))
  ·exact Ev.neg h (Ev.const (by simp[orI,h]))
theorem cmpInt_eq (a b:Int):cT_.f a b=some (cmpI a b):=by
 unfold cT_.f bT_.f cmpI
 simp only[Option.bind_some,bne_self_eq_false,Bool.false_eq_true,if_false]
 split
 ·rfl
 ·split<;>rfl
theorem keys_eq (a b:aa_) (ha:szR a) (hb:szR b):Ev (fun k=>bK_.f k a.f0 a.f1 a.f2 a.f3 b.f0 b.f1 b.f2 b.f3) (orI [cmpN a.f0 b.f0,cmpI a.f1 b.f1]):=by
 unfold bK_.f
 exact Ev.bind' _ (compareNames_eq a.f0 b.f0 ha.1 hb.1) (Ev.cbind _ (cmpInt_eq _ _) (Ev.bind' _ (cmpOr_eq _ (by simp)) (Ev.const rfl)))
theorem cmpI_zero {a b:Int}:cmpI a b=0↔a=b:=by
 unfold cmpI
 by_cases h1:a<b
 ·simp[h1];omega
 ·by_cases h2:a > b
  ·simp[h1,h2];omega
  ·simp[h1,h2];omega
theorem implCmpRec_eq (a b:aa_) (ha:szR a) (hb:szR b) (ga:okR a=true) (gb:okR b=true):Ev (fun k=>bi_.f k a.f0 a.f1 a.f2 a.f3 b.f0 b.f1 b.f2 b.f3) (cmpRec a b):=by
 unfold bi_.f
 refine Ev.bind' _ (keys_eq a b ha hb) (Ev.bind' _ (dataBytes_eq _ _ ha.2 (okR_data ga)) (Ev.bind' _ (dataBytes_eq _ _ hb.2 (okR_data gb)) (Ev.cbind (cmpB (bts (dataB a.f1 a.f3)) (bts (dataB b.f1 b.f3))) ?_ (Ev.cbind _ (cmpInt_eq _ _) (Ev.bind' _ (cmpOr_eq _ (by simp)) (Ev.const ?_))))))
 ·unfold strings_Compare.f
  rw[compareBytes_eq]
  rfl
 ·rw[Option.some.injEq]
  have o3:∀x y z:Int,orI [orI [cmpN a.f0 b.f0,x],y,z]=if cmpN a.f0 b.f0=0 then(if x=0 then(if y=0 then z else y) else x) else cmpN a.f0 b.f0:=by
   intro x y z
   simp only[orI]
   by_cases hn:cmpN a.f0 b.f0=0
   ·by_cases hx:x=0
    ·by_cases hy:y=0
     ·by_cases hz:z=0<;>simp[hn,hx,hy,hz]
     ·simp[hn,hx,hy]
    ·simp[hn,hx]
   ·simp[hn]
  rw[o3]
  unfold cmpRec
  by_cases hn:cmpN a.f0 b.f0=0
  ·rw[if_pos hn,if_pos hn]
   by_cases ht:a.f1=b.f1
   ·rw[if_pos ht,if_pos (cmpI_zero.mpr ht)]
    unfold cmpB
    by_cases hd:bts (dataB a.f1 a.f3)=bts (dataB b.f1 b.f3)
    ·rw[if_pos hd,hd,bytesLess_irr]
     simp
    ·rw[if_neg hd]
     by_cases hl:Op.bytesLess (bts (dataB a.f1 a.f3)) (bts (dataB b.f1 b.f3))=true
     ·simp[hl,hd]
     ·simp[hl,hd]
   ·rw[if_neg ht,if_neg (fun h=>ht (cmpI_zero.mp h))]
    unfold cmpI
    by_cases hl:a.f1<b.f1
    ·simp[hl]
    ·have:a.f1 > b.f1:=by omega
     simp[hl,this]
  ·rw[if_neg hn,if_neg hn]
def riseFrom:aa_→List aa_→Bool
 | _,[]=>true
 | a,b::t=>okR b&&decide (cmpRec a b<0)&&riseFrom b t
def rises:List aa_→Bool
 | []=>true
 | a::t=>okR a&&riseFrom a t
def riseP (p:Option aa_) (l:List aa_):Bool:=match p with
 | none=>rises l
 | some a=>riseFrom a l
theorem getLast_mid {α:Type} {l p t:List α} {x:α} {d:α} (e:l=p++x::t) (hp:p≠[]):l.getD ((p.length:Int) - 1).toNat d=p.getLast hp:=by
 have h1:p=p.dropLast++[p.getLast hp]:=(List.dropLast_concat_getLast hp).symm
 have hl:0<p.length:=List.length_pos_iff.mpr hp
 have h2:((p.length:Int) - 1).toNat=p.dropLast.length:=by rw[List.length_dropLast];omega
 rw[h2]
 have e2:l=p.dropLast++(p.getLast hp::x::t):=by
  rw[e]
  conv=>lhs;rw[h1]
  simp only[List.append_assoc,List.singleton_append]
 rw[e2]
 simp[List.getD_eq_getElem?_getD]
theorem lastOpt_some {α:Type} {p:List α} (hp:p≠[]):p.getLast? = some (p.getLast hp):=List.getLast?_eq_some_getLast hp
theorem specList_eq (l:List aa_) (hl:l.length≤1048576) (hs:∀r∈l,szR r):Ev (fun k=>b_.f k l) (rises l&&decide (l.length≤40)):=by
 unfold b_.f
 refine Ev.eq_ (a1_ l (fun k (_:Unit) i=>b_.l0 k l l (l.length:Int) i) (fun _ t=>riseP (l.take (l.length - t.length)).getLast? t&&decide (l.length≤40)) (fun p _=>∀r∈p,okR r=true) ?_ ?_ () (by simp)) (by simp[riseP])
 ·intro _ _
  apply Ev.succ
  simp only[b_.l0]
  refine Ev.neg (by omega) (Ev.const ?_)
  rw[show decide ((l.length:Int)≤40)=decide (l.length≤40) from decide_eq_decide.mpr (by omega)]
  cases(List.take (l.length - ([]:List aa_).length) l).getLast?<;>simp[riseP,rises,riseFrom]
 ·intro p x t _ e hp ih
  have hm:=a7_ e
  have hx:=hs x (cF_ e)
  have ht1:l.take (l.length - (x::t).length)=p:=by rw[e];simp
  have ht2:l.take (l.length - t.length)=p++[x]:=by
   have e3:l=(p++[x])++t:=by rw[e];simp
   have e4:l.length - t.length=(p++[x]).length:=by rw[hm.2.2];simp<;>omega
   rw[e4,e3,List.take_left']
   rfl
  rw[ht1]
  rw[ht2] at ih
  apply Ev.succ
  simp only[b_.l0,a_,bP_ e]
  refine Ev.pos hm.1 (Ev.pos (by omega) (Ev.pos hm.1 (Ev.bind' (okR x) (specRec_eq _ _ _ _ hx.1 hx.2) ?_)))
  have hlast:(p++[x]).getLast? = some x:=by simp
  rw[hlast] at ih
  cases hk:okR x with
  | false =>
   refine Ev.aJ_ (Ev.const ?_)
   cases p.getLast?<;>simp[riseP,rises,riseFrom,hk]
  | true =>
   refine Ev.aK_ ?_
   have hgo:=ih () (by intro r hr;rcases List.mem_append.mp hr with h|h;exact hp r h;simp only[List.mem_singleton] at h;rw[h];exact hk)
   by_cases hp0:p=[]
   ·subst hp0
    refine Ev.neg (by simp) ?_
    rw[w64 (by simp) (by simp)]
    refine Ev.eq_ hgo ?_
    simp[riseP,rises,hk]
   ·have hpl:0<p.length:=List.length_pos_iff.mpr hp0
    rw[w64 (i:=(p.length:Int) - 1) (by omega) (by omega),w64 (i:=(p.length:Int)+1) (by omega) (by omega),getLast_mid e hp0]
    have hlm:p.getLast hp0∈l:=by rw[e];exact List.mem_append_left _ (List.getLast_mem hp0)
    refine Ev.pos (by omega) (Ev.pos (by omega) (Ev.pos (by omega) (Ev.bind' _ (specCmpRec_eq _ x (hs _ hlm) hx (hp _ (List.getLast_mem hp0)) hk) ?_)))
    rw[lastOpt_some hp0]
    by_cases hc:cmpRec (p.getLast hp0) x≥0
    ·refine Ev.pos hc (Ev.const ?_)
     have:¬cmpRec (p.getLast hp0) x<0:=by omega
     simp[riseP,riseFrom,this]
    ·refine Ev.neg hc (Ev.eq_ hgo ?_)
     have:cmpRec (p.getLast hp0) x<0:=by omega
     simp[riseP,riseFrom,this,hk]
theorem areRising_eq (l:List aa_) (hl:l.length≤1048576) (hs:∀r∈l,szR r):Ev (fun k=>aV_.f k l) (rises l):=by
 unfold aV_.f
 refine Ev.eq_ (a1_ l (fun k (_:Unit) i=>aV_.l0 k l l (l.length:Int) i) (fun _ t=>riseP (l.take (l.length - t.length)).getLast? t) (fun p _=>∀r∈p,okR r=true) ?_ ?_ () (by simp)) (by simp[riseP])
 ·intro _ _
  apply Ev.succ
  simp only[aV_.l0]
  refine Ev.neg (by omega) (Ev.const ?_)
  cases(List.take (l.length - ([]:List aa_).length) l).getLast?<;>simp[riseP,rises,riseFrom]
 ·intro p x t _ e hp ih
  have hm:=a7_ e
  have hx:=hs x (cF_ e)
  have ht1:l.take (l.length - (x::t).length)=p:=by rw[e];simp
  have ht2:l.take (l.length - t.length)=p++[x]:=by
   have e3:l=(p++[x])++t:=by rw[e];simp
   have e4:l.length - t.length=(p++[x]).length:=by rw[hm.2.2];simp<;>omega
   rw[e4,e3,List.take_left']
   rfl
  rw[ht1]
  rw[ht2] at ih
  apply Ev.succ
  simp only[aV_.l0,a_,bP_ e]
  refine Ev.pos hm.1 (Ev.pos (by omega) (Ev.pos hm.1 (Ev.bind' (okR x) (implRec_eq _ _ _ _ hx.1 hx.2) ?_)))
  have hlast:(p++[x]).getLast? = some x:=by simp
  rw[hlast] at ih
  cases hk:okR x with
  | false =>
   refine Ev.aJ_ (Ev.const ?_)
   cases p.getLast?<;>simp[riseP,rises,riseFrom,hk]
  | true =>
   refine Ev.aK_ ?_
   have hgo:=ih () (by intro r hr;rcases List.mem_append.mp hr with h|h;exact hp r h;simp only[List.mem_singleton] at h;rw[h];exact hk)
   by_cases hp0:p=[]
   ·subst hp0
    refine Ev.neg (by simp) ?_
    rw[w64 (by simp) (by simp)]
    refine Ev.eq_ hgo ?_
    simp[riseP,rises,hk]
   ·have hpl:0<p.length:=List.length_pos_iff.mpr hp0
    rw[w64 (i:=(p.length:Int) - 1) (by omega) (by omega),w64 (i:=(p.length:Int)+1) (by omega) (by omega),getLast_mid e hp0]
    have hlm:p.getLast hp0∈l:=by rw[e];exact List.mem_append_left _ (List.getLast_mem hp0)
    refine Ev.pos (by omega) (Ev.pos (by omega) (Ev.pos (by omega) (Ev.bind' _ (implCmpRec_eq _ x (hs _ hlm) hx (hp _ (List.getLast_mem hp0)) hk) ?_)))
    rw[lastOpt_some hp0]
    by_cases hc:cmpRec (p.getLast hp0) x≥0
    ·refine Ev.pos hc (Ev.const ?_)
     have:¬cmpRec (p.getLast hp0) x<0:=by omega
     simp[riseP,riseFrom,this]
    ·refine Ev.neg hc (Ev.eq_ hgo ?_)
     have:cmpRec (p.getLast hp0) x<0:=by omega
     simp[riseP,riseFrom,this,hk]
def atR (l:List aa_) (name:ByteArray) (kind:Int):List aa_:=l.filter (fun r=>decide (bts r.f0=bts name)&&(decide (kind=0)||decide (r.f1=kind)))
def hasT (l:List aa_) (name:ByteArray) (kind:Int):Bool:=l.any (fun r=>decide (bts r.f0=bts name)&&decide (r.f1=kind))
theorem at_eq (l:List aa_) (name:ByteArray) (kind:Int) (hl:l.length≤1048576):Ev (fun k=>bx_.f k l name kind) (atR l name kind):=by
 unfold bx_.f atR
 refine Ev.eq_ (a1_ l (fun k (acc:List aa_) i=>bx_.l0 k name kind acc l (l.length:Int) i) (fun acc t=>acc++t.filter (fun r=>decide (bts r.f0=bts name)&&(decide (kind=0)||decide (r.f1=kind)))) (fun p acc=>acc.length≤p.length) ?_ ?_ [] (Nat.le_refl _)) (by simp)
 ·intro acc _
  apply Ev.succ
  simp only[bx_.l0]
  exact Ev.neg (by omega) (Ev.const (by simp))
 ·intro p x t acc e ha ih
  have hm:=a7_ e
  apply Ev.succ
  simp only[bx_.l0,a_,bP_ e,aT_]
  rw[w64 (i:=(p.length:Int)+1) (by omega) (by omega)]
  refine Ev.pos hm.1 (Ev.pos (by omega) (Ev.pos hm.1 ?_))
  by_cases h1:bts x.f0=bts name
  ·refine Ev.pos h1 ?_
   by_cases h2:kind=0
   ·refine Ev.pos h2 (Ev.pos (by omega) (Ev.eq_ (ih (acc++[x]) (by simp;omega)) ?_))
    rw[List.filter_cons_of_pos (by simp[h1,h2])]
    simp
   ·refine Ev.neg h2 ?_
    by_cases h3:x.f1=kind
    ·refine Ev.pos h3 (Ev.pos (by omega) (Ev.eq_ (ih (acc++[x]) (by simp;omega)) ?_))
     rw[List.filter_cons_of_pos (by simp[h1,h3])]
     simp
    ·refine Ev.neg h3 (Ev.eq_ (ih acc (by simp;omega)) ?_)
     rw[List.filter_cons_of_neg (by simp[h2,h3])]
  ·refine Ev.neg h1 (Ev.eq_ (ih acc (by simp;omega)) ?_)
   rw[List.filter_cons_of_neg (by simp[h1])]
theorem hasT_eq (l:List aa_) (name:ByteArray) (kind:Int) (hl:l.length≤1048576):Ev (fun k=>bG_.f k l name kind) (hasT l name kind):=by
 unfold bG_.f hasT
 refine a1_ l (fun k (_:Unit) i=>bG_.l0 k name kind l (l.length:Int) i) (fun _ t=>t.any (fun r=>decide (bts r.f0=bts name)&&decide (r.f1=kind))) (fun _ _=>True) ?_ ?_ () trivial
 ·intro _ _
  apply Ev.succ
  simp only[bG_.l0]
  exact Ev.neg (by omega) (Ev.const (by simp))
 ·intro p x t _ e _ ih
  have hm:=a7_ e
  apply Ev.succ
  simp only[bG_.l0,a_,bP_ e,aT_]
  rw[w64 (i:=(p.length:Int)+1) (by omega) (by omega)]
  refine Ev.pos hm.1 (Ev.pos (by omega) (Ev.pos hm.1 ?_))
  by_cases h1:bts x.f0=bts name
  ·refine Ev.pos h1 ?_
   by_cases h3:x.f1=kind
   ·exact Ev.pos h3 (Ev.const (by simp[h1,h3]))
   ·exact Ev.neg h3 (Ev.eq_ (ih () trivial) (by simp[h3]))
  ·exact Ev.neg h1 (Ev.eq_ (ih () trivial) (by simp[h1]))
theorem atR_len (l:List aa_) (name:ByteArray) (kind:Int):(atR l name kind).length≤l.length:=List.length_filter_le _ _
theorem atR_has {l:List aa_} {name:ByteArray} {kind:Int} (h0:kind≠0):hasT l name kind=true↔(atR l name kind).length > 0:=by
 unfold hasT atR
 rw[List.any_eq_true,gt_iff_lt,List.length_pos_iff_exists_mem]
 constructor
 ·rintro⟨r,hr,h⟩
  refine⟨r,List.mem_filter.mpr ⟨hr,?_⟩⟩
  simp only[Bool.and_eq_true,decide_eq_true_eq] at h ⊢
  exact⟨h.1,by simp[h.2]⟩
 ·rintro⟨r,hr⟩
  obtain⟨hr,h⟩:=List.mem_filter.mp hr
  refine⟨r,hr,?_⟩
  simp only[Bool.and_eq_true,decide_eq_true_eq,Bool.or_eq_true] at h ⊢
  exact⟨h.1,h.2.resolve_left h0⟩
def belowN (a b:ByteArray):Bool:=decide (bts b=[])||decide (bts a=bts b)||(46::bts b).isSuffixOf (bts a)
theorem suffix_drop {α:Type} [BEq α] [LawfulBEq α] (l m:List α):m.isSuffixOf l=(decide (m.length≤l.length)&&(l.drop (l.length - m.length)==m)):=by
 rw[Bool.eq_iff_iff,List.isSuffixOf_iff_suffix]
 simp only[Bool.and_eq_true,decide_eq_true_eq,beq_iff_eq]
 constructor
 ·rintro⟨p,rfl⟩
  refine⟨by simp,?_⟩
  simp
 ·rintro⟨h1,h2⟩
  exact⟨l.take (l.length - m.length),by rw[←h2,List.length_drop];have:l.length - (l.length - (l.length - m.length))=l.length - m.length:=(by omega);rw[this];exact List.take_append_drop _ _⟩
theorem specBelow_eq (a b:ByteArray) (ha:a.size≤1048576) (hb:b.size≤1048576):bk_.f a b=some (belowN a b):=by
 have za:=be_ a
 have zb:=be_ b
 unfold bk_.f belowN
 simp only[aT_]
 by_cases h1:bts b=[]
 ·rw[if_pos h1];simp[h1]
 ·rw[if_neg h1]
  by_cases h2:bts a=bts b
  ·rw[if_pos h2];simp[h2]
  ·rw[if_neg h2]
   have hn:(decide (bts b=[])||decide (bts a=bts b))=false:=by simp[h1,h2]
   rw[hn,Bool.false_or,suffix_drop]
   rw[w64 (i:=(a.size:Int) - (b.size:Int)) (by omega) (by omega)]
   by_cases h3:(a.size:Int) - (b.size:Int) > 0
   ·rw[if_pos h3,if_pos (by omega),if_pos (by omega),w64 (i:=(a.size:Int) - (b.size:Int) - 1) (by omega) (by omega)]
    obtain⟨c,hc⟩:∃c:Nat,a.size=b.size+(c+1):=⟨a.size - b.size - 1,by omega⟩
    have e1:((a.size:Int) - (b.size:Int)).toNat=c+1:=by omega
    have e2:(a.size:Int) - (b.size:Int) - 1=(c:Int):=by omega
    have hl:(bts a).length=(bts b).length+(c+1):=by omega
    obtain⟨p,x,t,e,hp⟩:∃p x t,bts a=p++x::t∧p.length=c:=by
     refine⟨(bts a).take c,(bts a)[c]'(by omega),(bts a).drop (c+1),?_,by simp;omega⟩
     rw[List.getElem_cons_drop]
     exact(List.take_append_drop _ _).symm
    have hx:bt a (c:Int)=(x.toNat:Int):=by rw[←hp];exact bt_mid e
    have ht:bts (a.extract (c+1) a.size)=t:=by
     rw[extract_bts,ch_,e,←hp]
     have:p++x::t=(p++[x])++t:=by simp
     rw[this,show p.length+1=(p++[x]).length from by simp,List.drop_left,List.take_of_length_le]
     have hz:(bts a).length=p.length+(t.length+1):=by rw[e];simp
     have hlp:(p++[x]).length=p.length+1:=by simp
     omega
    have htl:t.length=(bts b).length:=by
     have hz:(bts a).length=p.length+(t.length+1):=by rw[e];simp
     omega
    rw[e1,ht,e2,hx]
    have hd:(bts a).drop ((bts a).length - (46::bts b).length)=x::t:=by
     have:(bts a).length - (46::bts b).length=p.length:=by simp;omega
     rw[this,e,List.drop_left]
    rw[hd]
    have hle:decide ((46::bts b).length≤(bts a).length)=true:=decide_eq_true (by simp;omega)
    rw[hle,Bool.true_and]
    by_cases h4:t=bts b
    ·rw[if_pos h4,if_pos (by omega),if_pos (by omega)]
     congr 1
     rw[h4]
     by_cases h5:x=46
     ·subst h5
      simp
     ·have:¬((x.toNat:Int)=46):=by
       intro h
       apply h5
       apply UInt8.toNat_inj.mp
       have h46:(46:UInt8).toNat=46:=rfl
       omega
      have a1:(((x.toNat:Int))==46)=false:=beq_eq_false_iff_ne.mpr this
      have a2:(x==46)=false:=beq_eq_false_iff_ne.mpr h5
      simp[a1,a2]
    ·rw[if_neg h4]
     simp[h4]
   ·rw[if_neg h3]
    have hle:decide ((46::bts b).length≤(bts a).length)=false:=decide_eq_false (by simp;omega)
    rw[hle,Bool.false_and]
theorem implBelow_eq (a b:ByteArray) (ha:a.size≤1048576) (hb:b.size≤1048576):bB_.f a b=some (belowN a b):=by
 have za:=be_ a
 have zb:=be_ b
 unfold bB_.f belowN
 simp only[aT_]
 by_cases h2:bts a=bts b
 ·rw[if_pos h2];simp[h2]
 ·rw[if_neg h2]
  by_cases h1:bts b=[]
  ·rw[if_pos h1];simp[h1]
  ·rw[if_neg h1,if_pos (by omega)]
   have hn:(decide (bts b=[])||decide (bts a=bts b))=false:=by simp[h1,h2]
   rw[hn,Bool.false_or,suffix_drop]
   have hs:bts ((⟨#[46]⟩:ByteArray)++b)=46::bts b:=by
    unfold bts
    rw[ByteArray.data_append]
    simp
   have hz:((⟨#[46]⟩:ByteArray)++b).size=b.size+1:=by rw[be_,hs];simp;omega
   unfold strings_HasSuffix.f cz_.f
   by_cases h3:(a.size:Int)≥(((⟨#[46]⟩:ByteArray)++b).size:Int)
   ·rw[if_pos h3]
    rw[hz] at h3
    rw[hz,w64 (i:=(a.size:Int) - ((b.size+1:Nat):Int)) (by omega) (by omega),if_pos (by omega),if_pos (by omega)]
    simp only[Option.bind_some]
    congr 1
    have e1:((a.size:Int) - ((b.size+1:Nat):Int)).toNat=(bts a).length - (46::bts b).length:=by simp;omega
    rw[e1,aT_,aT_,extract_bts,ch_,hs,List.take_of_length_le (by simp;omega)]
    have hle:decide ((46::bts b).length≤(bts a).length)=true:=decide_eq_true (by simp;omega)
    rw[hle,Bool.true_and]
   ·rw[if_neg h3]
    rw[hz] at h3
    have hle:decide ((46::bts b).length≤(bts a).length)=false:=decide_eq_false (by simp;omega)
    rw[hle,Bool.false_and]
    rfl
def after:List UInt8→List UInt8
 | []=>[]
 | b::t=>if b=46 then t else after t
def parentN (s:ByteArray):ByteArray:=⟨(after (bts s)).toArray⟩
theorem after_pre (post:List UInt8):∀pre:List UInt8,46∉pre→after (pre++46::post)=post
 | [],_=>by simp[after]
 | b::pre,h=>by
  have hb:b≠46:=fun e=>h (by simp[e])
  rw[List.cons_append,show after (b::(pre++46::post))=if b=46 then pre++46::post else after (pre++46::post) from rfl,if_neg hb]
  exact after_pre post pre (fun hm=>h (by simp[hm]))
theorem after_none:∀l:List UInt8,46∉l→after l=[]
 | [],_=>rfl
 | b::l,h=>by
  have hb:b≠46:=fun e=>h (by simp[e])
  rw[show after (b::l)=if b=46 then l else after l from rfl,if_neg hb]
  exact after_none l (fun hm=>h (by simp[hm]))
theorem after_len:∀l:List UInt8,l≠[]→(after l).length<l.length
 | [],h=>absurd rfl h
 | b::l,_=>by
  unfold after
  split
  ·simp
  ·cases l with
   | nil=>simp[after]
   | cons c l=>have:=after_len (c::l) (by simp);simp at this ⊢;omega
theorem parentN_size (s:ByteArray):(parentN s).size≤s.size:=by
 rw[be_,be_,parentN,ch_]
 cases h:bts s with
 | nil=>simp[after]
 | cons b l=>have:=after_len (b::l) (by simp);omega
theorem dot_split (l:List UInt8):46∉l∧Go.Lib.indexByte l 46 = -1∨∃pre post,l=pre++46::post∧46∉pre∧Go.Lib.indexByte l 46=(pre.length:Int):=by
 rcases Nat.eq_zero_or_pos (Go.Lib.countByte l 46) with h|h
 ·exact Or.inl (index_none l 46 h)
 ·obtain⟨pre,post,h1,h2,h3,_⟩:=index_some l 46 h
  exact Or.inr ⟨pre,post,h1,h2,h3⟩
theorem implParent_eq (s:ByteArray) (hs:s.size≤1048576):cQ_.f s=some (parentN s):=by
 have hz:=be_ s
 unfold cQ_.f strings_Cut.f stringslite_Cut.f b1_.f
 rw[if_pos (by rfl)]
 simp only[Option.bind_some]
 have hh:(((⟨#[46]⟩:ByteArray).data.toList).headD 0)=46:=rfl
 have h1:((⟨#[46]⟩:ByteArray).size:Int)=1:=rfl
 rw[hh,h1]
 have hb:s.data.toList=bts s:=rfl
 rw[hb]
 rcases dot_split (bts s) with ⟨h2,h3⟩|⟨pre,post,e,h2,h3⟩
 ·rw[h3,if_neg (by omega)]
  simp only[Option.bind_some]
  unfold parentN
  rw[after_none _ h2]
 ·have hl:(bts s).length=pre.length+(post.length+1):=by rw[e];simp
  rw[h3,if_pos (by omega),if_pos (by omega),if_pos (by omega),w64 (i:=(pre.length:Int)+1) (by omega) (by omega),if_pos (by omega),if_pos (by omega)]
  simp only[Option.bind_some]
  unfold parentN
  rw[e,after_pre _ _ h2,extract_bts]
  congr 3
  have h5:((pre.length:Int)+1).toNat=(pre++[46]).length:=by simp<;>omega
  have h6:bts s=(pre++[46])++post:=by rw[e];simp
  have h7:(pre++[46]).length=pre.length+1:=by simp
  rw[h5,h6,List.drop_left,List.take_of_length_le]
  omega
theorem specParent_eq (s:ByteArray) (hs:s.size≤1048576):Ev (fun k=>bJ_.f k s) (parentN s):=by
 have hz:=be_ s
 unfold bJ_.f
 refine Ev.eq_ (a1_ (bts s) (fun k (_:Unit) i=>bJ_.l0 k s i) (fun _ t=>(⟨(after t).toArray⟩:ByteArray)) (fun _ _=>True) ?_ ?_ () trivial) rfl
 ·intro _ _
  apply Ev.succ
  simp only[bJ_.l0]
  exact Ev.neg (by omega) (Ev.const rfl)
 ·intro p b t _ e _ ih
  have hm:=a7_ e
  apply Ev.succ
  simp only[bJ_.l0]
  refine Ev.pos (by omega) (Ev.pos (by omega) ?_)
  rw[bt_mid e,w64 (i:=(p.length:Int)+1) (by omega) (by omega)]
  by_cases h5:b=46
  ·subst h5
   refine Ev.pos rfl (Ev.pos (by omega) (Ev.pos (by omega) (Ev.const ?_)))
   rw[extract_bts]
   have h6:bts s=(p++[46])++t:=by rw[e];simp
   have h7:(p++[46]).length=p.length+1:=by simp
   have h8:((p.length:Int)+1).toNat=(p++[46]).length:=by omega
   rw[h8,h6,List.drop_left,List.take_of_length_le (by omega)]
   simp[after]
  ·have:¬((b.toNat:Int)=46):=by
    intro h
    apply h5
    apply UInt8.toNat_inj.mp
    have h46:(46:UInt8).toNat=46:=rfl
    omega
   refine Ev.neg this (Ev.eq_ (ih () trivial) ?_)
   simp[after,h5]
theorem parent_labels (s:ByteArray) (h:(labels s).all labelOk=true):(labels (parentN s)).all labelOk=true:=by
 rcases dot_split (bts s) with ⟨h2,h3⟩|⟨pre,post,e,h2,h3⟩
 ·have:bts (parentN s)=[]:=by rw[parentN,ch_,after_none _ h2]
  simp[labels,this]
 ·have e1:bts (parentN s)=post:=by rw[parentN,ch_,e,after_pre _ _ h2]
  have e2:labels s=⟨pre.toArray⟩::splitC 46 [] post:=by
   unfold labels
   rw[if_neg (by rw[e];simp),e,splitC_pre _ _ _ _ h2]
   simp
  rw[e2,List.all_cons,Bool.and_eq_true] at h
  unfold labels
  rw[e1]
  split
  ·rfl
  ·exact h.2
def ups (apex:ByteArray):Nat→ByteArray→List ByteArray
 | 0,_=>[]
 | n+1,s=>if bts s=bts apex then [] else s::ups apex n (parentN s)
def cutStep (l:List aa_) (st:ByteArray × Bool) (s:ByteArray):ByteArray × Bool:=if hasT l s 2=true then(s,true) else st
def cutSt (l:List aa_) (st:ByteArray × Bool) (c:List ByteArray):ByteArray × Bool:=c.foldl (cutStep l) st
theorem below_self (s:ByteArray):belowN s s=true:=by simp[belowN]
theorem below_iff {a b:ByteArray}:belowN a b=true↔bts b=[]∨bts a=bts b∨(46::bts b) <:+ bts a:=by
 unfold belowN
 simp only[Bool.or_eq_true,decide_eq_true_eq,List.isSuffixOf_iff_suffix,or_assoc]
theorem parent_bts (s:ByteArray):bts (parentN s)=after (bts s):=by rw[parentN,ch_]
theorem below_parent {s a:ByteArray} (h:belowN s a=true) (hne:bts s≠bts a):bts s≠[]∧belowN (parentN s) a=true:=by
 rcases below_iff.mp h with h1|h1|⟨p,h1⟩
 ·refine⟨fun h2=>hne (by rw[h1,h2]),below_iff.mpr (Or.inl h1)⟩
 ·exact absurd h1 hne
 ·refine⟨fun h2=>?_,?_⟩
  ·rw[h2] at h1
   have:=congrArg List.length h1
   simp at this
  ·rcases dot_split p with ⟨h2,_⟩|⟨pre,post,e,h2,_⟩
   ·refine below_iff.mpr (Or.inr (Or.inl ?_))
    rw[parent_bts,←h1,after_pre _ _ h2]
   ·refine below_iff.mpr (Or.inr (Or.inr ⟨post,?_⟩))
    rw[parent_bts,←h1,e]
    simp only[List.append_assoc,List.cons_append]
    rw[after_pre _ _ h2]
theorem below_up {s c:ByteArray} (h:belowN (parentN s) c=true):belowN s c=true:=by
 rcases below_iff.mp h with h1|h1|⟨p,h1⟩
 ·exact below_iff.mpr (Or.inl h1)
 ·rw[parent_bts] at h1
  rcases dot_split (bts s) with ⟨h2,_⟩|⟨pre,post,e,h2,_⟩
  ·rw[after_none _ h2] at h1
   exact below_iff.mpr (Or.inl h1.symm)
  ·rw[e,after_pre _ _ h2] at h1
   refine below_iff.mpr (Or.inr (Or.inr ⟨pre,?_⟩))
   rw[e,h1]
 ·rw[parent_bts] at h1
  rcases dot_split (bts s) with ⟨h2,_⟩|⟨pre,post,e,h2,_⟩
  ·rw[after_none _ h2] at h1
   have:=congrArg List.length h1
   simp at this
  ·rw[e,after_pre _ _ h2] at h1
   refine below_iff.mpr (Or.inr (Or.inr ⟨pre++46::p,?_⟩))
   rw[e,←h1]
   simp
theorem parent_lt {s:ByteArray} (h:bts s≠[]):(parentN s).size<s.size:=by
 rw[be_,be_,parent_bts]
 exact after_len _ h
theorem l6Cut_loop (apex:ByteArray) (l:List aa_) (ha:apex.size≤1048576) (hl:l.length≤1048576):∀(n:Nat) (s:ByteArray) (st:ByteArray × Bool),s.size<n→s.size≤1048576→belowN s apex=true →
  Ev (fun k=>a3_.l0 k apex l s st.1 st.2) (cutSt l st (ups apex n s))
 | 0,_,_,h,_,_=>by omega
 | n+1,s,st,hn,hs,hb=>by
  apply Ev.succ
  simp only[a3_.l0,aT_]
  by_cases e:bts s=bts apex
  ·refine Ev.pos e (Ev.succ ?_)
   simp only[a3_.j1]
   exact Ev.neg (by simp) (Ev.const (by simp[ups,e,cutSt]))
  ·obtain⟨h1,h2⟩:=below_parent hb e
   have h3:=parent_lt h1
   refine Ev.neg e (Ev.cbind _ (specBelow_eq s apex hs ha) ?_)
   rw[hb]
   apply Ev.succ
   simp only[a3_.j1,aT_]
   refine Ev.pos (by first|rfl|trivial) (Ev.bind' _ (hasT_eq l s 2 hl) ?_)
   have hu:ups apex (n+1) s=s::ups apex n (parentN s):=by
    rw[show ups apex (n+1) s=if bts s=bts apex then [] else s::ups apex n (parentN s) from rfl,if_neg e]
   rw[hu]
   have hc:cutSt l st (s::ups apex n (parentN s))=cutSt l (cutStep l st s) (ups apex n (parentN s)):=rfl
   rw[hc]
   unfold cutStep
   cases hh:hasT l s 2 with
   | true =>
    refine Ev.aK_ (Ev.neg h1 (Ev.bind' _ (specParent_eq s hs) ?_))
    exact l6Cut_loop apex l ha hl n (parentN s) (s,true) (by omega) (by omega) h2
   | false =>
    refine Ev.aJ_ (Ev.neg h1 (Ev.bind' _ (specParent_eq s hs) ?_))
    exact l6Cut_loop apex l ha hl n (parentN s) st (by omega) (by omega) h2
def cutOf (apex:ByteArray) (l:List aa_) (s:ByteArray):ByteArray × Bool:=cutSt l ((⟨#[]⟩:ByteArray),false) (ups apex (s.size+1) s)
theorem l6Cut_eq (apex:ByteArray) (l:List aa_) (s:ByteArray) (ha:apex.size≤1048576) (hl:l.length≤1048576) (hs:s.size≤1048576) (hb:belowN s apex=true):Ev (fun k=>a3_.f k apex l s) (cutOf apex l s):=by
 unfold a3_.f
 exact l6Cut_loop apex l ha hl (s.size+1) s ((⟨#[]⟩:ByteArray),false) (by omega) hs hb
theorem cutAbove_loop (apex:ByteArray) (c:Int) (l:List aa_) (ha:apex.size≤1048576) (hl:l.length≤1048576):∀(n:Nat) (s:ByteArray) (st:ByteArray × Bool),s.size<n→s.size≤1048576→belowN s apex=true →
  Ev (fun k=>bV_.l0 k s st.1 st.2 apex c l) (cutSt l st (ups apex n s))
 | 0,_,_,h,_,_=>by omega
 | n+1,s,st,hn,hs,hb=>by
  apply Ev.succ
  simp only[bV_.l0,aT_]
  by_cases e:bts s=bts apex
  ·exact Ev.pos e (Ev.const (by simp[ups,e,cutSt]))
  ·obtain⟨h1,h2⟩:=below_parent hb e
   have h3:=parent_lt h1
   refine Ev.neg e (Ev.bind' _ (at_eq l s 2 hl) ?_)
   have hu:ups apex (n+1) s=s::ups apex n (parentN s):=by
    rw[show ups apex (n+1) s=if bts s=bts apex then [] else s::ups apex n (parentN s) from rfl,if_neg e]
   rw[hu]
   have hc:cutSt l st (s::ups apex n (parentN s))=cutSt l (cutStep l st s) (ups apex n (parentN s)):=rfl
   rw[hc]
   unfold cutStep
   have hat:=atR_has (l:=l) (name:=s) (kind:=2) (by omega)
   cases hh:hasT l s 2 with
   | true =>
    have h5:=hat.mp hh
    refine Ev.pos (by omega) (Ev.cbind _ (implParent_eq s hs) ?_)
    exact cutAbove_loop apex c l ha hl n (parentN s) (s,true) (by omega) (by omega) h2
   | false =>
    have h5:¬(atR l s 2).length > 0:=fun h=>by rw[hat.mpr h] at hh;cases hh
    refine Ev.neg (by omega) (Ev.cbind _ (implParent_eq s hs) ?_)
    exact cutAbove_loop apex c l ha hl n (parentN s) st (by omega) (by omega) h2
theorem cutAbove_eq (apex:ByteArray) (c:Int) (l:List aa_) (s:ByteArray) (ha:apex.size≤1048576) (hl:l.length≤1048576) (hs:s.size≤1048576) (hb:belowN s apex=true):Ev (fun k=>bV_.f k apex c l s) (cutOf apex l s):=by
 unfold bV_.f
 exact cutAbove_loop apex c l ha hl (s.size+1) s ((⟨#[]⟩:ByteArray),false) (by omega) hs hb
theorem below_antisymm {a b:ByteArray} (h1:belowN a b=true) (h2:belowN b a=true):bts a=bts b:=by
 have hsz:∀x y:ByteArray,belowN x y=true→bts x=bts y∨(bts y).length<(bts x).length:=by
  intro x y h
  rcases below_iff.mp h with h1|h1|h1
  ·by_cases hx:bts x=[]
   ·exact Or.inl (by rw[hx,h1])
   ·refine Or.inr ?_
    rw[h1]
    simpa[List.length_pos_iff] using hx
  ·exact Or.inl h1
  ·have:=h1.length_le
   simp at this
   exact Or.inr (by omega)
 rcases hsz a b h1 with h3|h3
 ·exact h3
 ·rcases hsz b a h2 with h4|h4
  ·exact h4.symm
  ·omega
theorem ups_mem (apex:ByteArray):∀(n:Nat) (s c:ByteArray),s.size<n→belowN s apex=true→(c∈ups apex n s↔belowN s c=true∧belowN c apex=true∧bts c≠bts apex)
 | 0,_,_,h,_=>by omega
 | n+1,s,c,hn,hb=>by
  have hu:ups apex (n+1) s=if bts s=bts apex then [] else s::ups apex n (parentN s):=rfl
  rw[hu]
  by_cases e:bts s=bts apex
  ·rw[if_pos e]
   constructor
   ·intro h;cases h
   ·rintro⟨h1,h2,h3⟩
    have e2:s=apex:=cU_ e
    rw[e2] at h1
    exact absurd (below_antisymm h2 h1) h3
  ·rw[if_neg e]
   obtain⟨h1,h2⟩:=below_parent hb e
   have h3:=parent_lt h1
   have ih:=ups_mem apex n (parentN s) c (by omega) h2
   rw[List.mem_cons,ih]
   constructor
   ·rintro(rfl|⟨h4,h5,h6⟩)
    ·exact⟨below_self _,hb,e⟩
    ·exact⟨below_up h4,h5,h6⟩
   ·rintro⟨h4,h5,h6⟩
    by_cases h7:bts s=bts c
    ·exact Or.inl (cU_ h7.symm)
    ·exact Or.inr ⟨(below_parent h4 h7).2,h5,h6⟩
theorem ups_size (apex:ByteArray):∀(n:Nat) (s c:ByteArray),c∈ups apex n s→c.size≤s.size
 | 0,_,_,h=>by cases h
 | n+1,s,c,h=>by
  have hu:ups apex (n+1) s=if bts s=bts apex then [] else s::ups apex n (parentN s):=rfl
  rw[hu] at h
  split at h
  ·cases h
  ·rcases List.mem_cons.mp h with rfl|h
   ·exact Nat.le_refl _
   ·have:=ups_size apex n (parentN s) c h
    have:=parentN_size s
    omega
theorem cutSt_has (l:List aa_):∀(c:List ByteArray) (st:ByteArray × Bool),(cutSt l st c).2=(st.2||c.any (fun s=>hasT l s 2))
 | [],st=>by simp[cutSt]
 | s::c,st=>by
  have h:cutSt l st (s::c)=cutSt l (cutStep l st s) c:=rfl
  rw[h,cutSt_has l c]
  unfold cutStep
  cases hh:hasT l s 2<;>simp[hh]
theorem cutSt_mem (l:List aa_):∀(c:List ByteArray) (st:ByteArray × Bool),(cutSt l st c=st∧c.any (fun s=>hasT l s 2)=false)∨((cutSt l st c).1∈c∧hasT l (cutSt l st c).1 2=true)
 | [],st=>by simp[cutSt]
 | s::c,st=>by
  have h:cutSt l st (s::c)=cutSt l (cutStep l st s) c:=rfl
  rw[h]
  rcases cutSt_mem l c (cutStep l st s) with ⟨h1,h2⟩|⟨h1,h2⟩
  ·rw[h1]
   unfold cutStep
   cases hh:hasT l s 2 with
   | true=>exact Or.inr ⟨by simp,by simpa using hh⟩
   | false=>exact Or.inl ⟨by simp,by simp[hh];simpa using h2⟩
  ·exact Or.inr ⟨List.mem_cons_of_mem _ h1,h2⟩
structure Cmp {α:Type} (c:α→α→Int):Prop where
 anti:∀a b,c b a = - c a b
 trans:∀a b d,c a b≤0→c b d≤0→c a d≤0
theorem Cmp.self {α:Type} {c:α→α→Int} (h:Cmp c) (a:α):c a a=0:=by
 have:=h.anti a a
 omega
theorem Cmp.lt_le {α:Type} {c:α→α→Int} (h:Cmp c) {a b d:α} (h1:c a b<0) (h2:c b d≤0):c a d<0:=by
 have h3:=h.trans a b d (by omega) h2
 by_cases h4:c a d=0
 ·have h5:=h.anti a d
  have h6:=h.trans b d a h2 (by omega)
  have h7:=h.anti a b
  omega
 ·omega
theorem Cmp.le_lt {α:Type} {c:α→α→Int} (h:Cmp c) {a b d:α} (h1:c a b≤0) (h2:c b d<0):c a d<0:=by
 have h3:=h.trans a b d h1 (by omega)
 by_cases h4:c a d=0
 ·have h5:=h.anti a d
  have h6:=h.trans d a b (by omega) h1
  have h7:=h.anti b d
  omega
 ·omega
theorem Cmp.lt_trans {α:Type} {c:α→α→Int} (h:Cmp c) {a b d:α} (h1:c a b<0) (h2:c b d<0):c a d<0:=h.lt_le h1 (by omega)
theorem Cmp.eq_trans {α:Type} {c:α→α→Int} (h:Cmp c) {a b d:α} (h1:c a b=0) (h2:c b d=0):c a d=0:=by
 have h3:=h.trans a b d (by omega) (by omega)
 have h4:=h.anti a b
 have h5:=h.anti b d
 have h6:=h.trans d b a (by omega) (by omega)
 have h7:=h.anti a d
 omega
theorem Cmp.pull {α β:Type} {c:α→α→Int} (h:Cmp c) (f:β→α):Cmp (fun a b=>c (f a) (f b)):=⟨fun a b=>h.anti _ _,fun a b d=>h.trans _ _ _⟩
theorem Cmp.lex {α:Type} {c c2:α→α→Int} (h:Cmp c) (h2:Cmp c2):Cmp (fun a b=>if c a b=0 then c2 a b else c a b):=by
 refine⟨fun a b=>?_,fun a b d=>?_⟩
 ·have h3:=h.anti a b
  have h4:=h2.anti a b
  show(if c b a=0 then c2 b a else c b a) = - (if c a b=0 then c2 a b else c a b)
  by_cases e:c a b=0
  ·rw[if_pos e,if_pos (by omega)];omega
  ·rw[if_neg e,if_neg (by omega)];omega
 ·show(if c a b=0 then c2 a b else c a b)≤0→(if c b d=0 then c2 b d else c b d)≤0→(if c a d=0 then c2 a d else c a d)≤0
  intro x y
  by_cases e1:c a b=0
  ·rw[if_pos e1] at x
   by_cases e2:c b d=0
   ·rw[if_pos e2] at y
    rw[if_pos (h.eq_trans e1 e2)]
    exact h2.trans a b d x y
   ·rw[if_neg e2] at y
    have:=h.le_lt (a:=a) (b:=b) (d:=d) (by omega) (by omega)
    rw[if_neg (by omega)]
    omega
  ·rw[if_neg e1] at x
   have hle:c b d≤0:=by
    by_cases e2:c b d=0
    ·omega
    ·rw[if_neg e2] at y;omega
   have:=h.lt_le (a:=a) (b:=b) (d:=d) (by omega) hle
   rw[if_neg (by omega)]
   omega
def lexL {α:Type} (c:α→α→Int):List α→List α→Int
 | [],[]=>0
 | [],_::_ => -1
 | _::_,[]=>1
 | a::s,b::t=>if c a b=0 then lexL c s t else c a b
theorem Cmp.lexL {α:Type} {c:α→α→Int} (h:Cmp c):Cmp (PL.lexL c):=by
 refine⟨?_,?_⟩
 ·intro a
  induction a with
  | nil=>intro b;cases b<;>simp[PL.lexL]
  | cons x s ih =>
   intro b
   cases b with
   | nil=>simp[PL.lexL]
   | cons y t =>
    have h3:=h.anti x y
    have h4:=ih t
    simp only[PL.lexL]
    by_cases e:c x y=0
    ·rw[if_pos e,if_pos (by omega)];omega
    ·rw[if_neg e,if_neg (by omega)];omega
 ·intro a
  induction a with
  | nil=>intro b d _ _;cases d<;>simp[PL.lexL]
  | cons x s ih =>
   intro b d
   cases b with
   | nil=>intro h1;simp[PL.lexL] at h1
   | cons y t =>
    cases d with
    | nil=>intro _ h2;simp[PL.lexL] at h2
    | cons z u =>
     simp only[PL.lexL]
     intro p q
     by_cases e1:c x y=0
     ·rw[if_pos e1] at p
      by_cases e2:c y z=0
      ·rw[if_pos e2] at q
       rw[if_pos (h.eq_trans e1 e2)]
       exact ih t u p q
      ·rw[if_neg e2] at q
       have:=h.le_lt (a:=x) (b:=y) (d:=z) (by omega) (by omega)
       rw[if_neg (by omega)]
       omega
     ·rw[if_neg e1] at p
      have hle:c y z≤0:=by
       by_cases e2:c y z=0
       ·omega
       ·rw[if_neg e2] at q;omega
      have:=h.lt_le (a:=x) (b:=y) (d:=z) (by omega) hle
      rw[if_neg (by omega)]
      omega
theorem lexL_zero {α:Type} {c:α→α→Int} (h:∀a b,c a b=0→a=b):∀s t:List α,lexL c s t=0→s=t
 | [],[],_=>rfl
 | [],_::_,h1=>by simp[lexL] at h1
 | _::_,[],h1=>by simp[lexL] at h1
 | a::s,b::t,h1=>by
  simp only[lexL] at h1
  by_cases e:c a b=0
  ·rw[if_pos e] at h1
   rw[h a b e,lexL_zero h s t h1]
  ·rw[if_neg e] at h1
   exact absurd h1 e
theorem cmpI_cmp:Cmp cmpI:=by
 refine⟨fun a b=>?_,fun a b d=>?_⟩
 ·unfold cmpI
  by_cases h1:a<b
  ·rw[if_neg (by omega),if_pos (by omega),if_pos h1];rfl
  ·by_cases h2:a > b
   ·rw[if_pos (by omega),if_neg h1,if_pos h2]
   ·rw[if_neg (by omega),if_neg (by omega),if_neg h1,if_neg h2];rfl
 ·unfold cmpI
  intro h1 h2
  by_cases e1:a<d
  ·rw[if_pos e1];omega
  ·rw[if_neg e1]
   by_cases e2:a > d
   ·exfalso
    by_cases f1:a<b
    ·have f2:¬b<d:=by omega
     rw[if_neg f2,if_pos (by omega)] at h2
     omega
    ·rw[if_neg f1] at h1
     by_cases f3:a > b
     ·rw[if_pos f3] at h1;omega
     ·have f2:¬b<d:=by omega
      rw[if_neg f2,if_pos (by omega)] at h2
      omega
   ·rw[if_neg e2];omega
def cmpU (a b:UInt8):Int:=cmpI (a.toNat:Int) (b.toNat:Int)
theorem cmpU_cmp:Cmp cmpU:=cmpI_cmp.pull (fun b:UInt8=>(b.toNat:Int))
theorem cmpU_zero (a b:UInt8) (h:cmpU a b=0):a=b:=by
 have:=cmpI_zero.mp h
 exact UInt8.toNat_inj.mp (by omega)
theorem cmpB_lex:∀a b:List UInt8,cmpB a b=lexL cmpU a b
 | [],[]=>by simp[cmpB,lexL,Op.bytesLess]
 | [],_::_=>by simp[cmpB,lexL,Op.bytesLess]
 | _::_,[]=>by simp[cmpB,lexL,Op.bytesLess]
 | x::s,y::t=>by
  have ih:=cmpB_lex s t
  simp only[lexL]
  rw[←ih]
  have hL:Op.bytesLess (x::s) (y::t)=(decide (x<y)||(x==y&&Op.bytesLess s t)):=rfl
  unfold cmpB
  rw[hL]
  by_cases h1:x=y
  ·subst h1
   have h0:cmpU x x=0:=cmpU_cmp.self x
   rw[if_pos h0]
   have hx:¬x<x:=UInt8.lt_irrefl x
   simp[hx]
  ·have h0:cmpU x y≠0:=fun h=>h1 (cmpU_zero x y h)
   rw[if_neg h0]
   have hb:(x==y)=false:=beq_eq_false_iff_ne.mpr h1
   have hn:x.toNat≠y.toNat:=fun h=>h1 (UInt8.toNat_inj.mp h)
   rw[hb,Bool.false_and,Bool.or_false]
   by_cases h2:x<y
   ·have h3:x.toNat<y.toNat:=UInt8.lt_iff_toNat_lt.mp h2
    unfold cmpU cmpI
    rw[if_pos (decide_eq_true h2),if_pos (by omega)]
   ·have h3:¬x.toNat<y.toNat:=fun h=>h2 (UInt8.lt_iff_toNat_lt.mpr h)
    unfold cmpU cmpI
    rw[if_neg (by simp[h2]),if_neg (by simp[h1]),if_neg (by omega),if_pos (by omega)]
theorem cmpB_cmp:Cmp cmpB:=by
 have:cmpB=lexL cmpU:=funext fun a=>funext fun b=>cmpB_lex a b
 rw[this]
 exact cmpU_cmp.lexL
theorem cmpB_zero (a b:List UInt8) (h:cmpB a b=0):a=b:=by
 rw[cmpB_lex] at h
 exact lexL_zero cmpU_zero a b h
theorem cmpR_lex:∀a b:List ByteArray,cmpR a b=lexL (fun x y=>cmpB (bts x) (bts y)) a b
 | [],[]=>rfl
 | [],_::_=>rfl
 | _::_,[]=>rfl
 | x::s,y::t=>by
  have ih:=cmpR_lex s t
  simp only[lexL,cmpR]
  rw[←ih]
  unfold ltS cmpB
  by_cases h1:Op.bytesLess (bts x) (bts y)=true
  ·rw[if_pos h1,if_pos h1,if_neg (by omega)]
  ·rw[if_neg h1,if_neg h1]
   by_cases h2:bts x=bts y
   ·rw[if_pos h2,if_pos h2,if_pos rfl]
   ·rw[if_neg h2,if_neg h2,if_neg (by omega)]
theorem cmpR_cmp:Cmp cmpR:=by
 have:cmpR=lexL (fun x y=>cmpB (bts x) (bts y)):=funext fun a=>funext fun b=>cmpR_lex a b
 rw[this]
 exact(cmpB_cmp.pull bts).lexL
theorem cmpR_zero (a b:List ByteArray) (h:cmpR a b=0):a=b:=by
 rw[cmpR_lex] at h
 exact lexL_zero (fun x y e=>cU_ (cmpB_zero _ _ e)) a b h
theorem cmpN_cmp:Cmp cmpN:=cmpR_cmp.pull (fun s:ByteArray=>(labels s).reverse)
def joinD (c:UInt8):List ByteArray→List UInt8
 | []=>[]
 | [x]=>bts x
 | x::y::t=>bts x++c::joinD c (y::t)
theorem splitC_cons (c:UInt8):∀(l cur:List UInt8),∃x t,splitC c cur l=x::t
 | [],cur=>⟨_,_,rfl⟩
 | b::l,cur=>by
  unfold splitC
  split
  ·exact⟨_,_,rfl⟩
  ·exact splitC_cons c l _
theorem joinD_split (c:UInt8):∀(l cur:List UInt8),joinD c (splitC c cur l)=cur++l
 | [],cur=>by simp[splitC,joinD,ch_]
 | b::l,cur=>by
  unfold splitC
  by_cases h:b=c
  ·rw[if_pos h]
   obtain⟨x,t,e⟩:=splitC_cons c l []
   have:=joinD_split c l []
   rw[e] at this ⊢
   simp only[joinD,ch_]
   rw[this,h]
   simp
  ·rw[if_neg h,joinD_split c l (cur++[b])]
   simp
theorem labels_join (s:ByteArray):joinD 46 (labels s)=bts s:=by
 unfold labels
 split
 ·rename_i h;rw[h];rfl
 ·rw[joinD_split];rfl
theorem labels_inj {a b:ByteArray} (h:labels a=labels b):a=b:=by
 apply cU_
 rw[←labels_join a,←labels_join b,h]
theorem cmpN_zero {a b:ByteArray}:cmpN a b=0↔a=b:=by
 constructor
 ·intro h
  have:=cmpR_zero _ _ h
  exact labels_inj (List.reverse_inj.mp this)
 ·intro h
  rw[h]
  exact cmpN_cmp.self b
theorem cmpN_bts {a b:ByteArray}:cmpN a b=0↔bts a=bts b:=cmpN_zero.trans ⟨fun h=>by rw[h],cU_⟩
def cmpK (a b:aa_):Int:=if cmpN a.f0 b.f0=0 then cmpI a.f1 b.f1 else cmpN a.f0 b.f0
theorem cmpK_cmp:Cmp cmpK:=(cmpN_cmp.pull (fun r:aa_=>r.f0)).lex (cmpI_cmp.pull (fun r:aa_=>r.f1))
theorem cmpK_zero {a b:aa_}:cmpK a b=0↔bts a.f0=bts b.f0∧a.f1=b.f1:=by
 unfold cmpK
 by_cases h:cmpN a.f0 b.f0=0
 ·rw[if_pos h,cmpI_zero]
  exact⟨fun h2=>⟨cmpN_bts.mp h,h2⟩,fun h2=>h2.2⟩
 ·rw[if_neg h]
  exact⟨fun h2=>absurd h2 h,fun h2=>absurd (cmpN_bts.mpr h2.1) h⟩
theorem cmpRec_lex (a b:aa_):cmpRec a b=if cmpK a b=0 then(if cmpB (bts (dataB a.f1 a.f3)) (bts (dataB b.f1 b.f3))=0 then cmpI a.f2 b.f2 else cmpB (bts (dataB a.f1 a.f3)) (bts (dataB b.f1 b.f3))) else cmpK a b:=by
 unfold cmpRec cmpK
 by_cases hn:cmpN a.f0 b.f0=0
 ·rw[if_pos hn,if_pos hn]
  by_cases ht:a.f1=b.f1
  ·rw[if_pos ht,if_pos (cmpI_zero.mpr ht)]
   unfold cmpB
   by_cases hd:bts (dataB a.f1 a.f3)=bts (dataB b.f1 b.f3)
   ·rw[if_pos hd,hd,bytesLess_irr]
    simp
   ·rw[if_neg hd]
    by_cases hl:Op.bytesLess (bts (dataB a.f1 a.f3)) (bts (dataB b.f1 b.f3))=true
    ·simp[hl,hd]
    ·simp[hl,hd]
  ·rw[if_neg ht,if_neg (fun h=>ht (cmpI_zero.mp h))]
   unfold cmpI
   by_cases hl:a.f1<b.f1
   ·simp[hl]
   ·have:a.f1 > b.f1:=by omega
    simp[hl,this]
 ·rw[if_neg hn,if_neg hn,if_neg hn]
theorem cmpRec_cmp:Cmp cmpRec:=by
 have:cmpRec=fun a b=>if cmpK a b=0 then(if cmpB (bts (dataB a.f1 a.f3)) (bts (dataB b.f1 b.f3))=0 then cmpI a.f2 b.f2 else cmpB (bts (dataB a.f1 a.f3)) (bts (dataB b.f1 b.f3))) else cmpK a b:=funext fun a=>funext fun b=>cmpRec_lex a b
 rw[this]
 exact cmpK_cmp.lex ((cmpB_cmp.pull (fun r:aa_=>bts (dataB r.f1 r.f3))).lex (cmpI_cmp.pull (fun r:aa_=>r.f2)))
theorem cmpRec_key {a b:aa_} (h:cmpRec a b≤0):cmpK a b≤0:=by
 rw[cmpRec_lex] at h
 by_cases e:cmpK a b=0
 ·omega
 ·rw[if_neg e] at h;exact h
theorem riseFrom_all:∀(l:List aa_) (a:aa_),riseFrom a l=true→(∀x∈l,cmpRec a x<0)∧l.Pairwise (fun x y=>cmpRec x y<0)∧∀x∈l,okR x=true
 | [],a,_=>by simp
 | b::t,a,h=>by
  simp only[riseFrom,Bool.and_eq_true,decide_eq_true_eq] at h
  obtain⟨⟨h1,h2⟩,h3⟩:=h
  obtain⟨i1,i2,i3⟩:=riseFrom_all t b h3
  refine⟨?_,List.pairwise_cons.mpr ⟨i1,i2⟩,?_⟩
  ·intro x hx
   rcases List.mem_cons.mp hx with rfl|hx
   ·exact h2
   ·exact cmpRec_cmp.lt_trans h2 (i1 x hx)
  ·intro x hx
   rcases List.mem_cons.mp hx with rfl|hx
   ·exact h1
   ·exact i3 x hx
theorem rises_all {l:List aa_} (h:rises l=true):l.Pairwise (fun x y=>cmpRec x y<0)∧∀x∈l,okR x=true:=by
 cases l with
 | nil=>simp
 | cons a t =>
  simp only[rises,Bool.and_eq_true] at h
  obtain⟨i1,i2,i3⟩:=riseFrom_all t a h.2
  refine⟨List.pairwise_cons.mpr ⟨i1,i2⟩,?_⟩
  intro x hx
  rcases List.mem_cons.mp hx with rfl|hx
  ·exact h.1
  ·exact i3 x hx
theorem splitC_step (c:UInt8) (cur:List UInt8) (b:UInt8) (l:List UInt8):splitC c cur (b::l)=if b=c then(⟨cur.toArray⟩:ByteArray)::splitC c [] l else splitC c (cur++[b]) l:=rfl
theorem splitC_app (c:UInt8):∀(p cur q:List UInt8),splitC c cur (p++c::q)=splitC c cur p++splitC c [] q
 | [],cur,q=>by simp[splitC]
 | b::p,cur,q=>by
  show splitC c cur (b::(p++c::q))=splitC c cur (b::p)++splitC c [] q
  rw[splitC_step,splitC_step]
  by_cases hb:b=c
  ·rw[if_pos hb,if_pos hb,splitC_app c p [] q]
   rfl
  ·rw[if_neg hb,if_neg hb,splitC_app c p _ q]
theorem ltS_self (a:ByteArray):ltS a a=false:=bytesLess_irr _
theorem cmpR_pre:∀(s t:List ByteArray),cmpR s (s++t)≤0
 | [],[]=>by simp[cmpR]
 | [],_::_=>by simp[cmpR]
 | a::s,t=>by
  show cmpR (a::s) (a::(s++t))≤0
  rw[cmpR,ltS_self]
  simpa using cmpR_pre s t
theorem below_labels {x a:ByteArray} (h:belowN x a=true):∃p,labels x=p++labels a:=by
 rcases below_iff.mp h with h1|h1|⟨p,h1⟩
 ·exact⟨labels x,by simp[labels,h1]⟩
 ·exact⟨[],by rw[cU_ h1];rfl⟩
 ·by_cases ha:bts a=[]
  ·exact⟨labels x,by simp[labels,ha]⟩
  ·refine⟨splitC 46 [] p,?_⟩
   unfold labels
   rw[if_neg ha,if_neg (by rw[←h1];simp),←h1,splitC_app]
theorem below_cmp {x a:ByteArray} (h:belowN x a=true):cmpN a x≤0:=by
 obtain⟨p,e⟩:=below_labels h
 unfold cmpN
 rw[e,List.reverse_append]
 exact cmpR_pre _ _
structure Ring (ns:List ByteArray) (l:List aD_):Prop where
 len:l.length=ns.length
 own:∀(i:Nat) (g:aD_),l[i]? = some g→ns[i]? = some g.f0∧ns[(i+1) % ns.length]? = some g.f1
theorem ring_hit {ns:List ByteArray} {l:List aD_} (hr:Ring ns l) (hp:ns.Pairwise (fun a b=>cmpN a b<0)) (x:ByteArray):∀(n i:Nat) (o:ByteArray),ns.length - i=n→ns[i]? = some o→cmpN o x≤0→∃j,i≤j∧∃g,l[j]? = some g∧hitG g x=true
 | 0,i,o,hn,ho,_=>by
  have:=(List.getElem?_eq_some_iff.mp ho).1
  omega
 | n+1,i,o,hn,ho,hx=>by
  have hi:i<ns.length:=(List.getElem?_eq_some_iff.mp ho).1
  have hil:i<l.length:=by rw[hr.len];exact hi
  obtain⟨e0,e1⟩:=hr.own i l[i] (List.getElem?_eq_getElem hil)
  have hog:l[i].f0=o:=by rw[ho] at e0;exact(Option.some.inj e0).symm
  by_cases h0:cmpN o x=0
  ·exact⟨i,Nat.le_refl _,l[i],List.getElem?_eq_getElem hil,by simp[hitG,hog,cmpN_bts.mp h0]⟩
  ·have hlt:cmpN o x<0:=by omega
   by_cases hlast:i+1<ns.length
   ·rw[Nat.mod_eq_of_lt hlast] at e1
    by_cases h1:cmpN x l[i].f1<0
    ·exact⟨i,Nat.le_refl _,l[i],List.getElem?_eq_getElem hil,by simp[hitG,covN,hog,hlt,h1]⟩
    ·have h2:cmpN l[i].f1 x≤0:=by
      have:=cmpN_cmp.anti l[i].f1 x
      omega
     obtain⟨j,hj,r⟩:=ring_hit hr hp x n (i+1) l[i].f1 (by omega) e1 h2
     exact⟨j,by omega,r⟩
   ·have hz:(i+1) % ns.length=0:=by
     rw[show i+1=ns.length from by omega]
     exact Nat.mod_self _
    rw[hz] at e1
    have h3:cmpN l[i].f1 o≤0:=by
     cases i with
     | zero =>
      rw[ho] at e1
      rw[←Option.some.inj e1,cmpN_cmp.self]
      exact Int.le_refl _
     | succ i =>
      obtain⟨b1,b2⟩:=List.getElem?_eq_some_iff.mp ho
      obtain⟨c1,c2⟩:=List.getElem?_eq_some_iff.mp e1
      have:=List.pairwise_iff_getElem.mp hp 0 (i+1) c1 b1 (by omega)
      rw[b2,c2] at this
      omega
    exact⟨i,Nat.le_refl _,l[i],List.getElem?_eq_getElem hil,by simp[hitG,covN,hog,hlt,h3]⟩
theorem idx_find {α:Type} (q:α→Bool):∀(l:List α),l.any q=true→∃(j:Nat) (g:α),idxP q l=(j:Int)∧l[j]? = some g∧l.find? q=some g∧q g=true
 | [],h=>by cases h
 | a::t,h=>by
  have hq:idxP q (a::t)=(if q a then 0 else if 0≤idxP q t then idxP q t+1 else -1):=rfl
  cases ha:q a with
  | true=>exact⟨0,a,by rw[hq,ha];rfl,rfl,by rw[List.find?_cons_of_pos ha],ha⟩
  | false =>
   obtain⟨j,g,h1,h2,h3,h4⟩:=idx_find q t (by simpa[ha] using h)
   refine⟨j+1,g,?_,h2,by rw[List.find?_cons_of_neg (by simp[ha])];exact h3,h4⟩
   rw[hq,ha,h1,if_neg (by simp),if_pos (by omega)]
   omega
theorem ring_any {ns:List ByteArray} {l:List aD_} (hr:Ring ns l) (hp:ns.Pairwise (fun a b=>cmpN a b<0)) (x o:ByteArray) (ho:ns[0]? = some o) (hx:cmpN o x≤0):l.any (fun g=>hitG g x)=true:=by
 obtain⟨j,_,g,h1,h2⟩:=ring_hit hr hp x ns.length 0 o (by omega) ho hx
 rw[List.any_eq_true]
 exact⟨g,List.mem_of_getElem? h1,h2⟩
theorem ring_owner {ns:List ByteArray} {l:List aD_} (hr:Ring ns l) (hp:ns.Pairwise (fun a b=>cmpN a b<0)) {i j:Nat} {g h:aD_} (hi:l[i]? = some g) (hj:l[j]? = some h):g.f0=h.f0↔i=j:=by
 constructor
 ·intro e
  have e1:=(hr.own i g hi).1
  have e2:=(hr.own j h hj).1
  rw[←e] at e2
  obtain⟨b1,b2⟩:=List.getElem?_eq_some_iff.mp e1
  obtain⟨c1,c2⟩:=List.getElem?_eq_some_iff.mp e2
  rcases Nat.lt_trichotomy i j with h1|h1|h1
  ·have:=List.pairwise_iff_getElem.mp hp i j b1 c1 h1
   rw[b2,c2,cmpN_cmp.self] at this
   omega
  ·exact h1
  ·have:=List.pairwise_iff_getElem.mp hp j i c1 b1 h1
   rw[b2,c2,cmpN_cmp.self] at this
   omega
 ·rintro rfl
  rw[hi] at hj
  rw[Option.some.inj hj]
theorem nil_or_snoc {α:Type} (l:List α):l=[]∨∃q y,l=q++[y]:=by
 rcases List.eq_nil_or_concat l with h|⟨q,y,h⟩
 ·exact Or.inl h
 ·exact Or.inr ⟨q,y,by rw[h];simp⟩
def hasI (l:List Int) (a:Int):Bool:=l.any (fun x=>decide (x=a))
def tyOk (a:Int):Bool:=hasI [1,2,5,6,15,16] a
theorem l1Has_eq (l:List Int) (a:Int) (hl:l.length≤1048576):Ev (fun k=>ct_.f k l a) (hasI l a):=by
 unfold ct_.f hasI
 refine Ev.eq_ (a1_ l (fun k (_:Unit) i=>ct_.l0 k a l (l.length:Int) i) (fun _ t=>t.any (fun x=>decide (x=a))) (fun _ _=>True) ?_ ?_ () trivial) rfl
 ·intro _ _
  apply Ev.succ
  simp only[ct_.l0]
  exact Ev.neg (by omega) (Ev.const rfl)
 ·intro p x t _ e _ ih
  have hm:=a7_ e
  apply Ev.succ
  simp only[ct_.l0,rd_mid' e]
  refine Ev.pos hm.1 (Ev.pos (by omega) (Ev.pos hm.1 ?_))
  rw[w64 (i:=(p.length:Int)+1) (by omega) (by omega)]
  by_cases hq:x=a
  ·exact Ev.pos hq (Ev.const (by simp[hq]))
  ·exact Ev.neg hq (Ev.eq_ (ih () trivial) (by simp[hq]))
theorem indexI_eq (l:List Int) (a:Int) (hl:l.length≤1048576):Ev (fun k=>bl_.f k l a) (idxP (fun x=>decide (x=a)) l):=by
 unfold bl_.f
 refine Ev.eq_ (a1_ l (fun k (_:Nat) i=>bl_.l0 k l a (l.length:Int) i) (fun n t=>if 0≤idxP (fun x=>decide (x=a)) t then(n:Int)+idxP (fun x=>decide (x=a)) t else -1) (fun p n=>n=p.length) ?_ ?_ 0 rfl) ?_
 ·intro n hn
  apply Ev.succ
  simp only[bl_.l0]
  exact Ev.neg (by omega) (Ev.const (by simp[idxP]))
 ·intro p x t n e hn ih
  have hm:=a7_ e
  apply Ev.succ
  simp only[bl_.l0,rd_mid' e]
  refine Ev.pos hm.1 (Ev.pos (by omega) (Ev.pos hm.1 ?_))
  have hq:idxP (fun x=>decide (x=a)) (x::t)=(if decide (x=a) then 0 else if 0≤idxP (fun x=>decide (x=a)) t then idxP (fun x=>decide (x=a)) t+1 else -1):=rfl
  rw[hq]
  by_cases hx:a=x
  ·exact Ev.pos hx (Ev.const (by simp[hn,hx]))
  ·refine Ev.neg hx ?_
   have hx2:¬x=a:=fun h=>hx h.symm
   rw[w64 (by omega) (by omega)]
   refine Ev.eq_ (ih (n+1) (by simp[hn])) ?_
   by_cases h2:0≤idxP (fun x=>decide (x=a)) t
   ·simp[h2,hx2];omega
   ·simp[h2,hx2]
 ·by_cases h2:0≤idxP (fun x=>decide (x=a)) l
  ·simp[h2]
  ·rw[if_neg h2]
   exact(idxP_neg _ l h2).symm
def addN (acc:List ByteArray) (r:aa_):List ByteArray:=if acc.getLast?.map bts=some (bts r.f0) then acc else acc++[r.f0]
def namesR (l:List aa_):List ByteArray:=l.foldl addN []
theorem addN_nil (r:aa_):addN [] r=[r.f0]:=by simp[addN]
theorem addN_same (q:List ByteArray) (y:ByteArray) (r:aa_) (h:bts y=bts r.f0):addN (q++[y]) r=q++[y]:=by simp[addN,h]
theorem addN_new (q:List ByteArray) (y:ByteArray) (r:aa_) (h:¬bts y=bts r.f0):addN (q++[y]) r=q++[y]++[r.f0]:=by simp[addN,h]
theorem addN_len (s:List ByteArray) (r:aa_):(addN s r).length≤s.length+1:=by
 unfold addN
 split<;>simp
theorem namesIn_eq (l:List aa_) (hl:l.length≤1048576):Ev (fun k=>bC_.f k l) (namesR l):=by
 unfold bC_.f namesR
 refine Ev.eq_ (a1_ l (fun k (s:List ByteArray) i=>bC_.l0 k s l (l.length:Int) i) (fun s t=>t.foldl addN s) (fun p s=>s.length≤p.length) ?_ ?_ [] (by simp)) rfl
 ·intro s _
  apply Ev.succ
  simp only[bC_.l0]
  exact Ev.neg (by omega) (Ev.const rfl)
 ·intro p x t s e hs ih
  have hm:=a7_ e
  rw[List.foldl_cons]
  apply Ev.succ
  simp only[bC_.l0,a_,bP_ e]
  rw[w64 (i:=(p.length:Int)+1) (by omega) (by omega),w64 (i:=(s.length:Int) - 1) (by omega) (by omega)]
  refine Ev.pos hm.1 (Ev.pos (by omega) (Ev.pos hm.1 ?_))
  rcases nil_or_snoc s with rfl|⟨q,y,rfl⟩
  ·rw[addN_nil]
   exact Ev.pos (by simp) (Ev.pos (by simp) (ih _ (by simp)))
  ·have hlen:(q++[y]).length=q.length+1:=by simp
   have hr:rdOf ByteArray.empty (q++[y]) (((q++[y]).length:Int) - 1)=y:=by
    rw[show(((q++[y]).length:Int) - 1)=(q.length:Int) from by omega]
    exact cR_ (l:=q++[y]) (t:=[]) rfl
   rw[hr,aT_,aT_]
   refine Ev.neg (by omega) (Ev.pos (by omega) (Ev.pos (by omega) ?_))
   by_cases hy:bts y=bts x.f0
   ·rw[addN_same q y x hy]
    exact Ev.pos hy (ih _ (by simp at hs ⊢;omega))
   ·rw[addN_new q y x hy]
    exact Ev.neg hy (Ev.pos (by omega) (ih _ (by simp at hs ⊢;omega)))
def putN:List ByteArray→ByteArray→List ByteArray
 | [],s=>[s]
 | x::t,s=>if cmpN x s<0 then x::putN t s else if bts x=bts s then x::t else s::x::t
def okN (s:ByteArray):Prop:=s.size≤1048576∧(labels s).all labelOk=true
theorem l1Put_eq (acc:List ByteArray) (s:ByteArray) (hl:acc.length≤1048576) (ha:∀x∈acc,okN x) (hs:okN s):Ev (fun k=>cv_.f k acc s) (putN acc s):=by
 unfold cv_.f
 refine Ev.eq_ (a1_ acc (fun k (_:Unit) i=>cv_.l0 k acc s i) (fun _ t=>acc.take (acc.length - t.length)++putN t s) (fun _ _=>True) ?_ ?_ () trivial) (by simp)
 ·intro _ _
  apply Ev.succ
  simp only[cv_.l0]
  refine Ev.neg (by omega) (Ev.pos (by omega) (Ev.pos (by omega) (Ev.cbind _ rfl (Ev.pos (by simp;omega) (Ev.cbind _ rfl (Ev.pos (by simp;omega) (Ev.cbind _ rfl (Ev.cbind _ rfl (Ev.pos (by simp;omega) (Ev.const ?_))))))))))
  simp[putN]
 ·intro p x t _ e _ ih
  have hm:=a7_ e
  have htk:acc.take (acc.length - (x::t).length)=p:=by
   rw[show acc.length - (x::t).length=p.length from by simp;omega,e]
   simp
  have htk1:acc.take (acc.length - t.length)=p++[x]:=by
   rw[show acc.length - t.length=(p++[x]).length from by simp;omega,e,show p++x::t=(p++[x])++t from by simp]
   exact List.take_left
  have hx:=ha x (cF_ e)
  have hd:acc.drop p.length=x::t:=by rw[e];simp
  have htp:acc.take p.length=p:=by rw[e];simp
  rw[htk]
  apply Ev.succ
  simp only[cv_.l0]
  rw[cR_ e,w64 (i:=(p.length:Int)+1) (by omega) (by omega),aT_,aT_]
  refine Ev.pos hm.1 (Ev.pos (by omega) (Ev.bind' _ (specCompare_eq x s hx.1 hs.1 hx.2 hs.2) ?_))
  by_cases h1:cmpN x s<0
  ·refine Ev.pos h1 (Ev.eq_ (ih () trivial) ?_)
   rw[htk1]
   simp[putN,h1]
  ·refine Ev.neg h1 ?_
   by_cases h2:bts x=bts s
   ·refine Ev.pos h2 (Ev.const ?_)
    simp only[putN,if_neg h1,if_pos h2]
    rw[←e]
   ·refine Ev.neg h2 (Ev.pos (by omega) (Ev.cbind _ rfl (Ev.pos (by simp;omega) (Ev.cbind _ rfl (Ev.pos (by simp;omega) (Ev.cbind _ rfl (Ev.cbind _ rfl (Ev.pos (by simp;omega) (Ev.const ?_)))))))))
    simp only[putN,if_neg h1,if_neg h2,List.nil_append]
    rw[show((p.length:Int)).toNat=p.length from by omega,hd,htp]
    simp
theorem putN_all (s:ByteArray):∀(acc:List ByteArray),(∀n∈acc,cmpN n s<0)→putN acc s=acc++[s]
 | [],_=>rfl
 | x::t,h=>by
  rw[putN,if_pos (h x (by simp)),putN_all s t (fun n hn=>h n (by simp[hn]))]
  rfl
theorem putN_last (s y:ByteArray) (hy:bts y=bts s):∀(q:List ByteArray),(∀n∈q,cmpN n s<0)→putN (q++[y]) s=q++[y]
 | [],_=>by
  have h0:cmpN y s=0:=cmpN_bts.mpr hy
  show putN [y] s=[y]
  rw[putN,if_neg (by omega),if_pos hy]
 | x::t,h=>by
  show putN (x::(t++[y])) s=_
  rw[putN,if_pos (h x (by simp)),putN_last s y hy t (fun n hn=>h n (by simp[hn]))]
  rfl
theorem cmpRec_name {a b:aa_} (h:cmpRec a b<0):cmpN a.f0 b.f0≤0:=by
 have h1:=cmpRec_key (a:=a) (b:=b) (by omega)
 unfold cmpK at h1
 split at h1<;>omega
theorem names_inv:∀(n:Nat) (p:List aa_),p.length=n→p.Pairwise (fun x y=>cmpRec x y<0) →
  (p.foldl addN []).Pairwise (fun x y=>cmpN x y<0)∧(∀m∈p.foldl addN [],∃r∈p,r.f0=m)∧(p.foldl addN []).getLast?.map bts=p.getLast?.map (fun r=>bts r.f0)∧(p.foldl addN []).length≤p.length
 | 0,p,hn,hp=>by
  obtain rfl:=List.eq_nil_of_length_eq_zero hn
  simp
 | n+1,p,hn,hp=>by
  rcases nil_or_snoc p with rfl|⟨q,x,rfl⟩
  ·simp at hn
  ·obtain⟨hq,_,hqx⟩:=List.pairwise_append.mp hp
   obtain⟨i1,i2,i3,i4⟩:=names_inv n q (by simpa using hn) hq
   rw[List.foldl_append,List.foldl_cons,List.foldl_nil]
   rcases nil_or_snoc (q.foldl addN []) with e|⟨a,y,e⟩
   ·rw[e,addN_nil]
    refine⟨by simp,fun m hm=>⟨x,by simp,?_⟩,by simp,by simp⟩
    exact(List.mem_singleton.mp hm).symm
   ·rw[e] at i1 i2 i3 i4 ⊢
    rcases nil_or_snoc q with rfl|⟨q',z,rfl⟩
    ·simp at e
    have hz:bts y=bts z.f0:=by simpa using i3
    have hzx:=cmpRec_name (hqx z (by simp) x (by simp))
    by_cases hy:bts y=bts x.f0
    ·rw[addN_same a y x hy]
     refine⟨i1,fun m hm=>?_,by simp[hy],by simp at i4 ⊢;omega⟩
     obtain⟨r,h1,h2⟩:=i2 m hm
     exact⟨r,List.mem_append_left _ h1,h2⟩
    ·rw[addN_new a y x hy]
     have hyx:cmpN y x.f0<0:=by
      have h0:y=z.f0:=cU_ hz
      have h1:cmpN y x.f0≠0:=fun h=>hy (cmpN_bts.mp h)
      rw[←h0] at hzx
      omega
     refine⟨List.pairwise_append.mpr ⟨i1,by simp,fun m hm w hw=>?_⟩,fun m hm=>?_,by simp,by simp at i4 ⊢;omega⟩
     ·have hw:w=x.f0:=by simpa using hw
      rw[hw]
      rcases List.mem_append.mp hm with h|h
      ·exact cmpN_cmp.lt_trans ((List.pairwise_append.mp i1).2.2 m h y (by simp)) hyx
      ·have h:m=y:=by simpa using h
       rw[h];exact hyx
     ·rcases List.mem_append.mp hm with h|h
      ·obtain⟨r,h1,h2⟩:=i2 m h
       exact⟨r,List.mem_append_left _ h1,h2⟩
      ·exact⟨x,by simp,(List.mem_singleton.mp h).symm⟩
theorem put_add {p:List aa_} {x:aa_} (hp:(p++[x]).Pairwise (fun x y=>cmpRec x y<0)):putN (p.foldl addN []) x.f0=addN (p.foldl addN []) x:=by
 obtain⟨hq,_,hqx⟩:=List.pairwise_append.mp hp
 obtain⟨i1,i2,i3,i4⟩:=names_inv p.length p rfl hq
 rcases nil_or_snoc (p.foldl addN []) with e|⟨a,y,e⟩
 ·rw[e,addN_nil]
  rfl
 ·rw[e] at i1 i2 i3 ⊢
  rcases nil_or_snoc p with rfl|⟨q',z,rfl⟩
  ·simp at e
  have hz:bts y=bts z.f0:=by simpa using i3
  have hzx:=cmpRec_name (hqx z (by simp) x (by simp))
  have h0:y=z.f0:=cU_ hz
  rw[←h0] at hzx
  have hay:∀m∈a,cmpN m y<0:=fun m hm=>(List.pairwise_append.mp i1).2.2 m hm y (by simp)
  by_cases hy:bts y=bts x.f0
  ·rw[addN_same a y x hy]
   exact putN_last x.f0 y hy a (fun m hm=>cmpN_cmp.lt_le (hay m hm) hzx)
  ·rw[addN_new a y x hy]
   have hyx:cmpN y x.f0<0:=by
    have h1:cmpN y x.f0≠0:=fun h=>hy (cmpN_bts.mp h)
    omega
   refine putN_all x.f0 (a++[y]) (fun m hm=>?_)
   rcases List.mem_append.mp hm with h|h
   ·exact cmpN_cmp.lt_trans (hay m h) hyx
   ·have h:m=y:=by simpa using h
    rw[h];exact hyx
theorem l6Names_eq (l:List aa_) (hl:l.length≤1048576) (hp:l.Pairwise (fun x y=>cmpRec x y<0)) (hs:∀r∈l,okN r.f0):Ev (fun k=>cg_.f k l) (namesR l):=by
 unfold cg_.f namesR
 refine Ev.eq_ (a1_ l (fun k (s:List ByteArray) i=>cg_.l0 k s l (l.length:Int) i) (fun s t=>t.foldl addN s) (fun p s=>s=p.foldl addN []) ?_ ?_ [] rfl) rfl
 ·intro s _
  apply Ev.succ
  simp only[cg_.l0]
  exact Ev.neg (by omega) (Ev.const rfl)
 ·intro p x t s e hs' ih
  have hm:=a7_ e
  have hpx:(p++[x]).Pairwise (fun x y=>cmpRec x y<0):=by
   rw[e,show p++x::t=(p++[x])++t from by simp] at hp
   exact(List.pairwise_append.mp hp).1
  obtain⟨_,i2,_,i4⟩:=names_inv p.length p rfl (List.pairwise_append.mp hpx).1
  have hput:=put_add hpx
  rw[←hs'] at hput i2 i4
  rw[List.foldl_cons,←hput]
  apply Ev.succ
  simp only[cg_.l0,a_,bP_ e]
  rw[w64 (i:=(p.length:Int)+1) (by omega) (by omega)]
  refine Ev.pos hm.1 (Ev.pos (by omega) (Ev.pos hm.1 (Ev.bind' _ (l1Put_eq s x.f0 (by omega) (fun m hmm=>?_) (hs x (cF_ e))) (ih _ ?_))))
  ·obtain⟨r,h1,h2⟩:=i2 m hmm
   rw[←h2]
   exact hs r (by rw[e];simp[h1])
  ·rw[hput,hs',List.foldl_append]
   rfl
def addA (acc:List Int) (r:aa_):List Int:=if hasI acc r.f1=true then acc else acc++[r.f1]
def typesR (n:ByteArray) (l:List aa_):List Int:=(atR l n 0).foldl addA []
theorem addA_len (s:List Int) (r:aa_):(addA s r).length≤s.length+1:=by
 unfold addA
 split<;>simp
theorem typesR_len (n:ByteArray) (l:List aa_):(typesR n l).length≤l.length:=by
 have h:∀(M:List aa_) (s:List Int),(M.foldl addA s).length≤s.length+M.length:=by
  intro M
  induction M with
  | nil=>intro s;simp
  | cons x t ih =>
   intro s
   have h1:=ih (addA s x)
   have h2:=addA_len s x
   rw[List.foldl_cons,List.length_cons]
   omega
 have h1:=h (atR l n 0) []
 have h2:=atR_len l n 0
 unfold typesR
 simp only[List.length_nil] at h1
 omega
def gapsT (ns:List ByteArray) (l:List aa_):List ByteArray→List aD_
 | []=>[]
 | n::t=>⟨n,ns.getD ((ns.length - t.length) % ns.length) ByteArray.empty,typesR n l⟩::gapsT ns l t
def gapsR (l:List aa_):List aD_:=gapsT (namesR l) l (namesR l)
theorem gapsT_len (ns:List ByteArray) (l:List aa_):∀t,(gapsT ns l t).length=t.length
 | []=>rfl
 | n::t=>by simp[gapsT,gapsT_len ns l t]
theorem gapsT_types (ns:List ByteArray) (l:List aa_):∀t,∀g∈gapsT ns l t,g.f2.length≤l.length
 | [],g,h=>by cases h
 | n::t,g,h=>by
  rcases List.mem_cons.mp h with e|e
  ·rw[e];exact typesR_len n l
  ·exact gapsT_types ns l t g e
theorem namesR_len (l:List aa_):(namesR l).length≤l.length:=by
 have h:∀(M:List aa_) (s:List ByteArray),(M.foldl addN s).length≤s.length+M.length:=by
  intro M
  induction M with
  | nil=>intro s;simp
  | cons x t ih =>
   intro s
   have h1:=ih (addN s x)
   have h2:=addN_len s x
   rw[List.foldl_cons,List.length_cons]
   omega
 have:=h l []
 simpa[namesR] using this
theorem next_at {ns p t:List ByteArray} {n:ByteArray} (e:ns=p++n::t) (hl:ns.length≤1048576):Int.tmod (wrap64 ((p.length:Int)+1)) (ns.length:Int)=(((ns.length - t.length) % ns.length:Nat):Int):=by
 have hm:=a7_ e
 rw[w64 (by omega) (by omega),show ns.length - t.length=p.length+1 from by omega,Int.ofNat_tmod]
 rfl
theorem rdOf_nat (ns:List ByteArray) (m:Nat):rdOf ByteArray.empty ns (m:Int)=ns.getD m ByteArray.empty:=by
 unfold rdOf
 rw[Int.toNat_natCast]
theorem containsI_eq (l:List Int) (a:Int) (hl:l.length≤1048576):Ev (fun k=>cf_.f k l a) (hasI l a):=by
 unfold cf_.f
 refine Ev.bind' _ (indexI_eq l a hl) (Ev.const ?_)
 rw[idxP_nonneg]
 rfl
theorem implTypes_loop (ns:List ByteArray) (gs:List aD_) (L i c:Int) (a:ByteArray) (l M:List aa_) (n nx:ByteArray) (hM:M.length≤1048576) (hg:gs.length≤1048576) (R:List aD_)
  (hR:Ev (fun k=>bf_.l0 k ns (gs++[⟨n,nx,M.foldl addA []⟩]) ns L (wrap64 (i+1)) a c l) R) :
  Ev (fun k=>bf_.l1 k ns gs ns L i M (M.length:Int) 0 a c l n nx []) R:=by
 refine a1_ M (fun k (ts:List Int) j=>bf_.l1 k ns gs ns L i M (M.length:Int) j a c l n nx ts) (fun _ _=>R) (fun p ts=>ts=p.foldl addA []∧ts.length≤p.length) ?_ ?_ [] ⟨rfl,Nat.le_refl _⟩
 ·rintro ts ⟨rfl,_⟩
  apply Ev.succ
  simp only[bf_.l1]
  exact Ev.neg (by omega) (Ev.pos (by omega) hR)
 ·rintro p x t ts e ⟨h1,h2⟩ ih
  have hm:=a7_ e
  apply Ev.succ
  simp only[bf_.l1,a_,bP_ e]
  rw[w64 (i:=(p.length:Int)+1) (by omega) (by omega)]
  refine Ev.pos hm.1 (Ev.pos (by omega) (Ev.pos hm.1 (Ev.bind' _ (containsI_eq ts x.f1 (by omega)) ?_)))
  cases hc:hasI ts x.f1 with
  | true=>exact Ev.aK_ (ih ts ⟨by rw[List.foldl_append,←h1];simp[addA,hc],by simp;omega⟩)
  | false=>exact Ev.aJ_ (Ev.pos (by omega) (ih _ ⟨by rw[List.foldl_append,←h1];simp[addA,hc],by simp;omega⟩))
theorem gapsOf_eq (a:ByteArray) (c:Int) (l:List aa_) (hl:l.length≤1048576):Ev (fun k=>bf_.f k a c l) (gapsR l):=by
 unfold bf_.f gapsR
 have hn:=namesR_len l
 refine Ev.bind' _ (namesIn_eq l hl) ?_
 generalize namesR l=ns at hn ⊢
 refine Ev.eq_ (a1_ ns (fun k (s:List aD_) i=>bf_.l0 k ns s ns (ns.length:Int) i a c l) (fun s t=>s++gapsT ns l t) (fun p s=>s.length≤p.length) ?_ ?_ [] (by simp)) (by simp)
 ·intro s _
  apply Ev.succ
  simp only[bf_.l0]
  exact Ev.neg (by omega) (Ev.const (by simp[gapsT]))
 ·intro p n t s e hs ih
  have hm:=a7_ e
  have hlt:(ns.length - t.length) % ns.length<ns.length:=Nat.mod_lt _ (by omega)
  have hrow:=atR_len l n 0
  apply Ev.succ
  simp only[bf_.l0]
  rw[next_at e (by omega),cR_ e,rdOf_nat]
  refine Ev.pos hm.1 (Ev.pos (by omega) (Ev.pos hm.1 (Ev.neg (by omega) (Ev.pos (by omega) (Ev.pos (by omega) (Ev.bind' _ (at_eq l n 0 hl) ?_))))))
  refine implTypes_loop ns s (ns.length:Int) (p.length:Int) c a l (atR l n 0) n _ (by omega) (by omega) _ ?_
  rw[w64 (i:=(p.length:Int)+1) (by omega) (by omega)]
  refine Ev.eq_ (ih _ (by simp;omega)) ?_
  simp[gapsT,typesR]
theorem specTypesG_loop (ns:List ByteArray) (gs:List aD_) (L i c:Int) (a:ByteArray) (l:List aa_) (n nx:ByteArray) (hl:l.length≤1048576) (hg:gs.length≤1048576) (R:List aD_)
  (hR:Ev (fun k=>ba_.l0 k ns (gs++[⟨n,nx,typesR n l⟩]) ns L (wrap64 (i+1)) a c l) R) :
  Ev (fun k=>ba_.l1 k ns gs n ns L i l (l.length:Int) 0 a c l n nx []) R:=by
 have hat:∀(p:List aa_) (x:aa_),(atR (p++[x]) n 0).foldl addA []=if bts x.f0=bts n then addA ((atR p n 0).foldl addA []) x else(atR p n 0).foldl addA []:=by
  intro p x
  unfold atR
  rw[List.filter_append,List.foldl_append]
  by_cases hx:bts x.f0=bts n
  ·rw[List.filter_cons_of_pos (by simp[hx]),if_pos hx];rfl
  ·rw[List.filter_cons_of_neg (by simp[hx]),if_neg hx];rfl
 refine a1_ l (fun k (ts:List Int) j=>ba_.l1 k ns gs n ns L i l (l.length:Int) j a c l n nx ts) (fun _ _=>R) (fun p ts=>ts=(atR p n 0).foldl addA []∧ts.length≤p.length) ?_ ?_ [] ⟨rfl,Nat.le_refl _⟩
 ·rintro ts ⟨rfl,_⟩
  apply Ev.succ
  simp only[ba_.l1]
  exact Ev.neg (by omega) (Ev.pos (by omega) hR)
 ·rintro p x t ts e ⟨h1,h2⟩ ih
  have hm:=a7_ e
  apply Ev.succ
  simp only[ba_.l1,a_,bP_ e,aT_]
  rw[w64 (i:=(p.length:Int)+1) (by omega) (by omega)]
  refine Ev.pos hm.1 (Ev.pos (by omega) (Ev.pos hm.1 ?_))
  by_cases hx:bts x.f0=bts n
  ·refine Ev.pos hx (Ev.bind' _ (l1Has_eq ts x.f1 (by omega)) ?_)
   cases hc:hasI ts x.f1 with
   | true=>exact Ev.aK_ (ih ts ⟨by rw[hat,if_pos hx,←h1];simp[addA,hc],by simp;omega⟩)
   | false=>exact Ev.aJ_ (Ev.pos (by omega) (ih _ ⟨by rw[hat,if_pos hx,←h1];simp[addA,hc],by simp;omega⟩))
  ·exact Ev.neg hx (ih ts ⟨by rw[hat,if_neg hx,←h1],by simp;omega⟩)
theorem l8Gaps_eq (a:ByteArray) (c:Int) (l:List aa_) (hl:l.length≤1048576) (hp:l.Pairwise (fun x y=>cmpRec x y<0)) (hs:∀r∈l,okN r.f0):Ev (fun k=>ba_.f k a c l) (gapsR l):=by
 unfold ba_.f gapsR
 have hn:=namesR_len l
 refine Ev.bind' _ (l6Names_eq l hl hp hs) ?_
 generalize namesR l=ns at hn ⊢
 refine Ev.eq_ (a1_ ns (fun k (s:List aD_) i=>ba_.l0 k ns s ns (ns.length:Int) i a c l) (fun s t=>s++gapsT ns l t) (fun p s=>s.length≤p.length) ?_ ?_ [] (by simp)) (by simp)
 ·intro s _
  apply Ev.succ
  simp only[ba_.l0]
  exact Ev.neg (by omega) (Ev.const (by simp[gapsT]))
 ·intro p n t s e hs ih
  have hm:=a7_ e
  have hlt:(ns.length - t.length) % ns.length<ns.length:=Nat.mod_lt _ (by omega)
  apply Ev.succ
  simp only[ba_.l0]
  rw[next_at e (by omega),cR_ e,rdOf_nat]
  refine Ev.pos hm.1 (Ev.pos (by omega) (Ev.pos hm.1 (Ev.neg (by omega) (Ev.pos (by omega) (Ev.pos (by omega) ?_)))))
  refine specTypesG_loop ns s (ns.length:Int) (p.length:Int) c a l n _ hl (by omega) _ ?_
  rw[w64 (i:=(p.length:Int)+1) (by omega) (by omega)]
  refine Ev.eq_ (ih _ (by simp;omega)) ?_
  simp[gapsT]
section
def soa1 (apex:ByteArray) (r:aa_):Nat:=if r.f1=6 then(if bts r.f0=bts apex then 1 else 2) else 0
def soaN (apex:ByteArray):List aa_→Nat
 | []=>0
 | r::t=>soa1 apex r+soaN apex t
def bad3 (a x:aa_):Bool:=decide (bts a.f0=bts x.f0)&&decide (a.f1=x.f1)&&(!decide (a.f2=x.f2)||decide (bts a.f3=bts x.f3))
def adj3:Option aa_→List aa_→Bool
 | _,[]=>false
 | none,x::t=>adj3 (some x) t
 | some a,x::t=>bad3 a x||adj3 (some x) t
def bad4 (o x:aa_):Bool:=decide (bts o.f0=bts x.f0)&&(decide (o.f1=5)||decide (x.f1=5))
def pair4:List aa_→List aa_→Bool
 | _,[]=>false
 | p,x::t=>p.any (fun o=>bad4 o x)||pair4 (p++[x]) t
def bad6 (apex:ByteArray) (l:List aa_) (r:aa_):Bool:=(cutOf apex l r.f0).2 && !decide (r.f1=1)&&(!decide (r.f1=2) || !decide (bts r.f0=bts (cutOf apex l r.f0).1))
def rule6 (apex:ByteArray) (l:List aa_):Int:=if l.any (bad6 apex l)=true then 6 else 0
def rule4 (apex:ByteArray) (l:List aa_):Int:=if pair4 [] l=true then 4 else if hasT l apex 5=true then 5 else rule6 apex l
def rule3 (apex:ByteArray) (l:List aa_):Int:=if adj3 none l=true then 3 else rule4 apex l
def ruleN (apex:ByteArray) (l:List aa_):Int:=if l.any (fun r => !belowN r.f0 apex)=true then 1 else if soaN apex l=1 then rule3 apex l else 2
section
variable (apex:ByteArray) (l:List aa_) (ha:apex.size≤1048576) (hl:l.length≤1048576) (hs:∀r∈l,szR r)
include ha hl hs
theorem specRule6 (hb:∀r∈l,belowN r.f0 apex=true):Ev (fun k=>aA_.l4 k apex l l (l.length:Int) 0) (rule6 apex l):=by
 unfold rule6
 refine Ev.eq_ (a1_ l (fun k (_:Unit) i=>aA_.l4 k apex l l (l.length:Int) i) (fun _ t=>if t.any (bad6 apex l)=true then(6:Int) else 0) (fun _ _=>True) ?_ ?_ () trivial) rfl
 ·intro _ _
  apply Ev.succ
  simp only[aA_.l4]
  exact Ev.neg (by omega) (Ev.const (by simp))
 ·intro p x t _ e _ ih
  have hm:=a7_ e
  have hx:=hs x (cF_ e)
  have hc:=l6Cut_eq apex l x.f0 ha hl hx.1 (hb x (cF_ e))
  apply Ev.succ
  simp only[aA_.l4,a_,bP_ e,aT_]
  rw[w64 (i:=(p.length:Int)+1) (by omega) (by omega)]
  refine Ev.pos hm.1 (Ev.pos (by omega) (Ev.pos hm.1 (Ev.bind' _ hc ?_)))
  have hq:bad6 apex l x=((cutOf apex l x.f0).2 && !decide (x.f1=1)&&(!decide (x.f1=2) || !decide (bts x.f0=bts (cutOf apex l x.f0).1))):=rfl
  rw[List.any_cons,hq]
  cases(cutOf apex l x.f0).2 with
  | false=>exact Ev.aJ_ (Ev.eq_ (ih () trivial) (by simp))
  | true =>
   refine Ev.aK_ ?_
   by_cases h1:x.f1=1
   ·exact Ev.pos h1 (Ev.eq_ (ih () trivial) (by simp[h1]))
   ·refine Ev.neg h1 ?_
    by_cases h2:x.f1=2
    ·refine Ev.pos h2 ?_
     by_cases h3:bts x.f0=bts (cutOf apex l x.f0).1
     ·exact Ev.pos h3 (Ev.eq_ (ih () trivial) (by simp[h2,h3]))
     ·exact Ev.neg h3 (Ev.const (by simp[h1,h2,h3]))
    ·exact Ev.neg h2 (Ev.const (by simp[h1,h2]))
theorem specRule4 (hb:∀r∈l,belowN r.f0 apex=true):Ev (fun k=>aA_.l2 k apex l l (l.length:Int) 0) (rule4 apex l):=by
 unfold rule4
 refine Ev.eq_ (a1_ l (fun k (_:List aa_) i=>aA_.l2 k apex l l (l.length:Int) i) (fun p t=>if pair4 p t=true then 4 else if hasT l apex 5=true then 5 else rule6 apex l) (fun p q=>q=p) ?_ ?_ [] rfl) rfl
 ·intro q hq
  apply Ev.succ
  simp only[aA_.l2]
  refine Ev.neg (by omega) (Ev.bind' _ (hasT_eq l apex 5 hl) ?_)
  have hp:pair4 q []=false:=by cases q<;>rfl
  rw[hp]
  cases hasT l apex 5 with
  | true=>exact Ev.aK_ (Ev.const (by simp))
  | false=>exact Ev.aJ_ (Ev.eq_ (specRule6 apex l ha hl hs hb) (by simp))
 ·intro p x t q e hq ih
  obtain rfl:=hq.symm
  have hm:=a7_ e
  apply Ev.succ
  simp only[aA_.l2,a_,bP_ e]
  have ht:l.take ((p.length:Int)).toNat=p:=by rw[e,Int.toNat_natCast,List.take_left'];rfl
  rw[ht]
  refine Ev.pos hm.1 (Ev.pos (by omega) (Ev.pos hm.1 (Ev.pos (by omega) (Ev.cbind _ rfl ?_))))
  have hgo:=ih (p++[x]) rfl
  have inner:Ev (fun k=>aA_.l3 k apex l l (l.length:Int) (p.length:Int) p (p.length:Int) 0 x.f0 x.f1 x.f2 x.f3) (if p.any (fun o=>bad4 o x)=true then 4 else if pair4 (p++[x]) t=true then 4 else if hasT l apex 5=true then 5 else rule6 apex l):=by
   refine Ev.eq_ (a1_ p (fun k (_:Unit) i=>aA_.l3 k apex l l (l.length:Int) (p.length:Int) p (p.length:Int) i x.f0 x.f1 x.f2 x.f3) (fun _ u=>if u.any (fun o=>bad4 o x)=true then(4:Int) else if pair4 (p++[x]) t=true then 4 else if hasT l apex 5=true then 5 else rule6 apex l) (fun _ _=>True) ?_ ?_ () trivial) rfl
   ·intro _ _
    apply Ev.succ
    simp only[aA_.l3]
    rw[w64 (i:=(p.length:Int)+1) (by omega) (by omega)]
    exact Ev.neg (by omega) (Ev.eq_ hgo (by simp))
   ·intro p2 o u _ e2 _ ih2
    have hm2:=a7_ e2
    apply Ev.succ
    simp only[aA_.l3,a_,bP_ e2,aT_]
    rw[w64 (i:=(p2.length:Int)+1) (by omega) (by omega)]
    have hq:bad4 o x=(decide (bts o.f0=bts x.f0)&&(decide (o.f1=5)||decide (x.f1=5))):=rfl
    rw[List.any_cons,hq]
    refine Ev.pos hm2.1 (Ev.pos (by omega) (Ev.pos hm2.1 ?_))
    by_cases h1:bts o.f0=bts x.f0
    ·refine Ev.pos h1 ?_
     by_cases h2:o.f1=5
     ·exact Ev.pos h2 (Ev.const (by simp[h1,h2]))
     ·refine Ev.neg h2 ?_
      by_cases h3:x.f1=5
      ·exact Ev.pos h3 (Ev.const (by simp[h1,h3]))
      ·exact Ev.neg h3 (Ev.eq_ (ih2 () trivial) (by simp[h2,h3]))
    ·exact Ev.neg h1 (Ev.eq_ (ih2 () trivial) (by simp[h1]))
  refine Ev.eq_ inner ?_
  rw[show pair4 p (x::t)=(p.any (fun o=>bad4 o x)||pair4 (p++[x]) t) from by cases p<;>rfl]
  cases p.any (fun o=>bad4 o x)<;>simp
theorem specRule3 (hb:∀r∈l,belowN r.f0 apex=true):Ev (fun k=>aA_.l1 k apex l l (l.length:Int) 0) (rule3 apex l):=by
 unfold rule3
 refine Ev.eq_ (a1_ l (fun k (_:List aa_) i=>aA_.l1 k apex l l (l.length:Int) i) (fun p t=>if adj3 p.getLast? t=true then 3 else rule4 apex l) (fun p q=>q=p) ?_ ?_ [] rfl) rfl
 ·intro q hq
  apply Ev.succ
  simp only[aA_.l1]
  have hp:adj3 q.getLast? []=false:=by cases q.getLast?<;>rfl
  rw[hp]
  exact Ev.neg (by omega) (Ev.eq_ (specRule4 apex l ha hl hs hb) (by simp))
 ·intro p x t q e hq ih
  obtain rfl:=hq.symm
  have hm:=a7_ e
  have hgo:=ih (p++[x]) rfl
  have hlast:(p++[x]).getLast? = some x:=by simp
  rw[hlast] at hgo
  apply Ev.succ
  simp only[aA_.l1,a_,bP_ e,aT_]
  refine Ev.pos hm.1 (Ev.pos (by omega) (Ev.pos hm.1 ?_))
  by_cases hp0:p=[]
  ·subst hp0
   refine Ev.neg (by simp) ?_
   rw[w64 (by simp) (by simp)]
   exact Ev.eq_ hgo (by simp[adj3])
  ·have hpl:0<p.length:=List.length_pos_iff.mpr hp0
   rw[w64 (i:=(p.length:Int) - 1) (by omega) (by omega),w64 (i:=(p.length:Int)+1) (by omega) (by omega),getLast_mid e hp0,lastOpt_some hp0]
   have hq:adj3 (some (p.getLast hp0)) (x::t)=(bad3 (p.getLast hp0) x||adj3 (some x) t):=rfl
   rw[hq]
   unfold bad3
   refine Ev.pos (by omega) (Ev.pos (by omega) (Ev.pos (by omega) ?_))
   by_cases h1:bts (p.getLast hp0).f0=bts x.f0
   ·refine Ev.pos h1 ?_
    by_cases h2:(p.getLast hp0).f1=x.f1
    ·refine Ev.pos h2 ?_
     by_cases h3:(p.getLast hp0).f2=x.f2
     ·refine Ev.pos h3 ?_
      by_cases h4:bts (p.getLast hp0).f3=bts x.f3
      ·exact Ev.pos h4 (Ev.const (by simp[h1,h2,h4]))
      ·exact Ev.neg h4 (Ev.eq_ hgo (by simp[h3,h4]))
     ·exact Ev.neg h3 (Ev.const (by simp[h1,h2,h3]))
    ·exact Ev.neg h2 (Ev.eq_ hgo (by simp[h2]))
   ·exact Ev.neg h1 (Ev.eq_ hgo (by simp[h1]))
theorem specRule_eq:Ev (fun k=>aA_.f k apex l) (ruleN apex l):=by
 unfold aA_.f ruleN
 have soa_len:∀t:List aa_,soaN apex t≤2 * t.length:=by
  intro t
  induction t with
  | nil=>simp[soaN]
  | cons r t ih =>
   have:soa1 apex r≤2:=by unfold soa1;split;split<;>omega;omega
   simp only[soaN,List.length_cons]
   omega
 have main:∀(t p:List aa_) (c:Nat),l=p++t→c≤2 * p.length→(∀r∈p,belowN r.f0 apex=true)→Ev (fun k=>aA_.l0 k apex l (c:Int) l (l.length:Int) (p.length:Int)) (if t.any (fun r => !belowN r.f0 apex)=true then 1 else if c+soaN apex t=1 then rule3 apex l else 2):=by
  intro t
  induction t with
  | nil =>
   intro p c e hc hb
   have hp:p=l:=by rw[e];simp
   apply Ev.succ
   simp only[aA_.l0]
   refine Ev.neg (by rw[hp];omega) ?_
   by_cases h1:c=1
   ·subst h1
    exact Ev.pos (by simp) (Ev.eq_ (specRule3 apex l ha hl hs (hp ▸ hb)) (by simp[soaN]))
   ·exact Ev.neg (by omega) (Ev.const (by simp[soaN,h1]))
  | cons x t ih =>
   intro p c e hc hb
   have hm:=a7_ e
   have hx:=hs x (cF_ e)
   apply Ev.succ
   simp only[aA_.l0,a_,bP_ e,aT_]
   rw[w64 (i:=(p.length:Int)+1) (by omega) (by omega)]
   refine Ev.pos hm.1 (Ev.pos (by omega) (Ev.pos hm.1 (Ev.cbind _ (specBelow_eq x.f0 apex hx.1 ha) ?_)))
   rw[List.any_cons]
   cases hbx:belowN x.f0 apex with
   | false=>exact Ev.aJ_ (Ev.const (by simp))
   | true =>
    refine Ev.aK_ ?_
    have hb2:∀r∈p++[x],belowN r.f0 apex=true:=by
     intro r hr
     rcases List.mem_append.mp hr with h|h
     ·exact hb r h
     ·simp only[List.mem_singleton] at h;rw[h];exact hbx
    have hs1:soa1 apex x≤2:=by unfold soa1;split;split<;>omega;omega
    have hgo:=ih (p++[x]) (c+soa1 apex x) (by rw[e];simp) (by simp;omega) hb2
    have hl1:(((p++[x]).length:Nat):Int)=(p.length:Int)+1:=by simp
    rw[hl1] at hgo
    have hsum:c+soa1 apex x+soaN apex t=c+soaN apex (x::t):=by simp only[soaN];omega
    rw[hsum] at hgo
    have hgo2:∀c':Int,c'=((c+soa1 apex x:Nat):Int)→Ev (fun k=>aA_.l0 k apex l c' l (l.length:Int) ((p.length:Int)+1)) (if (!true||t.any (fun r => !belowN r.f0 apex))=true then 1 else if c+soaN apex (x::t)=1 then rule3 apex l else 2):=by
     intro c' hc'
     subst hc'
     exact Ev.eq_ hgo (by simp)
    by_cases h6:x.f1=6
    ·refine Ev.pos h6 ?_
     rw[w64 (i:=(c:Int)+1) (by omega) (by omega),w64 (i:=(c:Int)+1+1) (by omega) (by omega)]
     by_cases hn:bts x.f0=bts apex
     ·exact Ev.pos hn (hgo2 _ (by unfold soa1;rw[if_pos h6,if_pos hn];omega))
     ·exact Ev.neg hn (hgo2 _ (by unfold soa1;rw[if_pos h6,if_neg hn];omega))
    ·exact Ev.neg h6 (hgo2 _ (by unfold soa1;rw[if_neg h6];omega))
 have:=main l [] 0 rfl (by simp) (by simp)
 simpa using this
end
end
def starless (s:ByteArray):Bool:=(labels s).all (fun x => !decide (bts x=[42]))
def apexOk (s:ByteArray):Bool:=nameOk s&&starless s
theorem apexOk_name {s:ByteArray} (h:apexOk s=true):nameOk s=true:=by
 unfold apexOk at h
 simp only[Bool.and_eq_true] at h
 exact h.1
theorem specApex_eq (s:ByteArray) (hs:s.size≤1048576):Ev (fun k=>bY_.f k s) (apexOk s):=by
 unfold bY_.f
 have hl:=labels_len s
 have main:∀(L:List ByteArray) (hL:L.length≤1048577) (ok:Bool),Ev (fun k=>bY_.l0 k ok L (L.length:Int) 0) (ok&&L.all (fun x => !decide (bts x=[42]))):=by
  intro L hL ok
  refine a1_ L (fun k (b:Bool) i=>bY_.l0 k b L (L.length:Int) i) (fun b t=>b&&t.all (fun x => !decide (bts x=[42]))) (fun _ _=>True) ?_ ?_ ok trivial
  ·intro b _
   apply Ev.succ
   simp only[bY_.l0]
   exact Ev.neg (by omega) (Ev.const (by simp))
  ·intro p x t b e _ ih
   have hm:=a7_ e
   apply Ev.succ
   simp only[bY_.l0,cR_ e]
   rw[w64 (i:=(p.length:Int)+1) (by omega) (by omega)]
   refine Ev.pos hm.1 (Ev.pos (by omega) (Ev.pos hm.1 ?_))
   cases b with
   | true=>exact Ev.aK_ (Ev.eq_ (ih _ trivial) (by rw[aT_,bne_dec];simp))
   | false=>exact Ev.aJ_ (Ev.eq_ (ih _ trivial) (by simp))
 refine Ev.bind' _ (specLabels_eq s hs) ?_
 by_cases ha:(labels s).all labelOk=true
 ·rw[if_pos ha]
  refine Ev.eq_ (main (labels s) (by omega) _) ?_
  unfold apexOk nameOk starless
  rw[ha,Bool.and_true]
 ·rw[if_neg ha]
  refine Ev.eq_ (main [] (by simp) false) ?_
  have hn:nameOk s=false:=by
   unfold nameOk
   have:(labels s).all labelOk=false:=by simpa using ha
   rw[this,Bool.and_false]
  unfold apexOk
  rw[hn]
  rfl
theorem implApex_eq (s:ByteArray) (hs:s.size≤1048576):Ev (fun k=>impl_isApex.f k s) (apexOk s):=by
 unfold impl_isApex.f apexOk
 refine Ev.bind' _ (implGoodName_eq s hs) ?_
 cases hn:nameOk s with
 | false=>exact Ev.aJ_ (Ev.const (by simp))
 | true =>
  refine Ev.aK_ (Ev.cbind _ (hasByte_eq s 42) (Ev.const ?_))
  have hst:=star_label hn
  unfold starless
  rw[Option.some.injEq,Bool.eq_iff_iff]
  simp only[Bool.true_and,Bool.not_eq_true',decide_eq_false_iff_not,List.all_eq_true,hst]
  constructor
  ·intro h2 x hx h3
   exact h2 ⟨x,hx,h3⟩
  ·rintro h2 ⟨x,hx,h3⟩
   exact h2 x hx h3
theorem ah_.idx (l0:List (aa_)) (a1_0:ByteArray) (l1_1:List (aa_)) (a1_2:Int) (q:(aa_)→Bool) (hl:l0.length≤1048576) (h:∀x∈l0,Ev (fun k=>impl_RuleOf_1.f k (x.f0) (x.f1) (x.f2) (x.f3) a1_0 l1_1 a1_2) (q x)):Ev (fun k=>ah_.f k l0 a1_0 l1_1 a1_2) (idxP q l0):=by
 unfold ah_.f
 refine Ev.eq_ (a1_ l0 (fun k (_:Nat) i=>ah_.l0 k l0 (l0.length:Int) i a1_0 l1_1 a1_2) (fun n t=>if 0≤idxP q t then(n:Int)+idxP q t else -1) (fun p n=>n=p.length) ?_ ?_ 0 rfl) ?_
 ·intro n hn
  apply Ev.succ
  simp only[ah_.l0]
  exact Ev.neg (by omega) (Ev.const (by simp[idxP]))
 ·intro p x t n e hn ih
  have hm:=a7_ e
  have hx:=h x (cF_ e)
  apply Ev.succ
  simp only[ah_.l0,a_,bP_ e]
  refine Ev.pos hm.1 (Ev.pos (by omega) (Ev.pos hm.1 (Ev.bind' _ hx ?_)))
  have hq:idxP q (x::t)=(if q x then 0 else if 0≤idxP q t then idxP q t+1 else -1):=rfl
  rw[hq]
  cases q x with
  | true=>exact Ev.aK_ (Ev.const (by simp[hn]))
  | false =>
   refine Ev.aJ_ ?_
   rw[w64 (by omega) (by omega)]
   refine Ev.eq_ (ih (n+1) (by simp[hn])) ?_
   by_cases h2:0≤idxP q t
   ·simp[h2];omega
   ·simp[h2]
 ·by_cases h2:0≤idxP q l0
  ·simp[h2]
  ·rw[if_neg h2]
   exact(idxP_neg q l0 h2).symm
theorem aE_.any (l0:List (aa_)) (a1_0:ByteArray) (l1_1:List (aa_)) (a1_2:Int) (q:(aa_)→Bool) (hl:l0.length≤1048576) (h:∀x∈l0,Ev (fun k=>impl_RuleOf_1.f k (x.f0) (x.f1) (x.f2) (x.f3) a1_0 l1_1 a1_2) (q x)):Ev (fun k=>aE_.f k l0 a1_0 l1_1 a1_2) (l0.any q):=by
 unfold aE_.f
 refine Ev.bind' _ (ah_.idx l0 a1_0 l1_1 a1_2 q hl h) (Ev.const ?_)
 rw[idxP_nonneg]
theorem al_.idx (l0:List (aa_)) (a1_0:ByteArray) (a1_1:Int) (a1_2:Int) (a1_3:ByteArray) (q:(aa_)→Bool) (hl:l0.length≤1048576) (h:∀x∈l0,Ev (fun k=>impl_breaks_1.f (x.f0) (x.f1) (x.f2) (x.f3) a1_0 a1_1 a1_2 a1_3) (q x)):Ev (fun k=>al_.f k l0 a1_0 a1_1 a1_2 a1_3) (idxP q l0):=by
 unfold al_.f
 refine Ev.eq_ (a1_ l0 (fun k (_:Nat) i=>al_.l0 k l0 (l0.length:Int) i a1_0 a1_1 a1_2 a1_3) (fun n t=>if 0≤idxP q t then(n:Int)+idxP q t else -1) (fun p n=>n=p.length) ?_ ?_ 0 rfl) ?_
 ·intro n hn
  apply Ev.succ
  simp only[al_.l0]
  exact Ev.neg (by omega) (Ev.const (by simp[idxP]))
 ·intro p x t n e hn ih
  have hm:=a7_ e
  have hx:=h x (cF_ e)
  apply Ev.succ
  simp only[al_.l0,a_,bP_ e]
  refine Ev.pos hm.1 (Ev.pos (by omega) (Ev.pos hm.1 (Ev.bind' _ hx ?_)))
  have hq:idxP q (x::t)=(if q x then 0 else if 0≤idxP q t then idxP q t+1 else -1):=rfl
  rw[hq]
  cases q x with
  | true=>exact Ev.aK_ (Ev.const (by simp[hn]))
  | false =>
   refine Ev.aJ_ ?_
   rw[w64 (by omega) (by omega)]
   refine Ev.eq_ (ih (n+1) (by simp[hn])) ?_
   by_cases h2:0≤idxP q t
   ·simp[h2];omega
   ·simp[h2]
 ·by_cases h2:0≤idxP q l0
  ·simp[h2]
  ·rw[if_neg h2]
   exact(idxP_neg q l0 h2).symm
theorem aQ_.any (l0:List (aa_)) (a1_0:ByteArray) (a1_1:Int) (a1_2:Int) (a1_3:ByteArray) (q:(aa_)→Bool) (hl:l0.length≤1048576) (h:∀x∈l0,Ev (fun k=>impl_breaks_1.f (x.f0) (x.f1) (x.f2) (x.f3) a1_0 a1_1 a1_2 a1_3) (q x)):Ev (fun k=>aQ_.f k l0 a1_0 a1_1 a1_2 a1_3) (l0.any q):=by
 unfold aQ_.f
 refine Ev.bind' _ (al_.idx l0 a1_0 a1_1 a1_2 a1_3 q hl h) (Ev.const ?_)
 rw[idxP_nonneg]
theorem am_.idx (l0:List (aa_)) (a1_0:ByteArray) (a1_1:ByteArray) (a1_2:Int) (a1_3:Int) (a1_4:ByteArray) (q:(aa_)→Bool) (hl:l0.length≤1048576) (h:∀x∈l0,Ev (fun k=>impl_breaks_2.f (x.f0) (x.f1) (x.f2) (x.f3) a1_0 a1_1 a1_2 a1_3 a1_4) (q x)):Ev (fun k=>am_.f k l0 a1_0 a1_1 a1_2 a1_3 a1_4) (idxP q l0):=by
 unfold am_.f
 refine Ev.eq_ (a1_ l0 (fun k (_:Nat) i=>am_.l0 k l0 (l0.length:Int) i a1_0 a1_1 a1_2 a1_3 a1_4) (fun n t=>if 0≤idxP q t then(n:Int)+idxP q t else -1) (fun p n=>n=p.length) ?_ ?_ 0 rfl) ?_
 ·intro n hn
  apply Ev.succ
  simp only[am_.l0]
  exact Ev.neg (by omega) (Ev.const (by simp[idxP]))
 ·intro p x t n e hn ih
  have hm:=a7_ e
  have hx:=h x (cF_ e)
  apply Ev.succ
  simp only[am_.l0,a_,bP_ e]
  refine Ev.pos hm.1 (Ev.pos (by omega) (Ev.pos hm.1 (Ev.bind' _ hx ?_)))
  have hq:idxP q (x::t)=(if q x then 0 else if 0≤idxP q t then idxP q t+1 else -1):=rfl
  rw[hq]
  cases q x with
  | true=>exact Ev.aK_ (Ev.const (by simp[hn]))
  | false =>
   refine Ev.aJ_ ?_
   rw[w64 (by omega) (by omega)]
   refine Ev.eq_ (ih (n+1) (by simp[hn])) ?_
   by_cases h2:0≤idxP q t
   ·simp[h2];omega
   ·simp[h2]
 ·by_cases h2:0≤idxP q l0
  ·simp[h2]
  ·rw[if_neg h2]
   exact(idxP_neg q l0 h2).symm
theorem aP_.any (l0:List (aa_)) (a1_0:ByteArray) (a1_1:ByteArray) (a1_2:Int) (a1_3:Int) (a1_4:ByteArray) (q:(aa_)→Bool) (hl:l0.length≤1048576) (h:∀x∈l0,Ev (fun k=>impl_breaks_2.f (x.f0) (x.f1) (x.f2) (x.f3) a1_0 a1_1 a1_2 a1_3 a1_4) (q x)):Ev (fun k=>aP_.f k l0 a1_0 a1_1 a1_2 a1_3 a1_4) (l0.any q):=by
 unfold aP_.f
 refine Ev.bind' _ (am_.idx l0 a1_0 a1_1 a1_2 a1_3 a1_4 q hl h) (Ev.const ?_)
 rw[idxP_nonneg]
section
def eqR4 (x r:aa_):Bool:=decide (bts x.f0=bts r.f0)&&decide (x.f1=r.f1)&&decide (x.f2=r.f2)&&decide (bts x.f3=bts r.f3)
def q3 (r x:aa_):Bool := !decide (x.f2=r.f2)||(decide (bts x.f3=bts r.f3) && !eqR4 x r)
def q6 (apex:ByteArray) (r c:aa_):Bool:=decide (c.f1=2) && !decide (bts c.f0=bts apex)&&belowN r.f0 c.f0 && !decide (r.f1=1) && !(decide (r.f1=2)&&decide (bts r.f0=bts c.f0))
def brk (apex:ByteArray) (l:List aa_) (i:Int) (r:aa_):Bool :=
 if i=1 then !belowN r.f0 apex else if i=2 then decide (r.f1=6) && !decide (bts r.f0=bts apex) else if i=3 then(atR l r.f0 r.f1).any (q3 r)
 else if i=4 then decide (r.f1=5)&&decide ((atR l r.f0 0).length > 1) else if i=5 then decide (r.f1=5)&&decide (bts r.f0=bts apex) else l.any (q6 apex r)
theorem beq_dec' (a b:List UInt8):(a==b)=decide (a=b):=by
 by_cases h:a=b
 ·simp[h]
 ·rw[beq_eq_false_iff_ne.mpr h];simp[h]
theorem beqI_dec (a b:Int):(a==b)=decide (a=b):=by
 by_cases h:a=b
 ·simp[h]
 ·rw[beq_eq_false_iff_ne.mpr h];simp[h]
theorem bneB_dec (a b:List UInt8):(a != b) = !decide (a=b):=by rw[bne,beq_dec']
theorem q3_eq (r x:aa_):impl_breaks_1.f x.f0 x.f1 x.f2 x.f3 r.f0 r.f1 r.f2 r.f3=some (q3 r x):=by
 unfold impl_breaks_1.f q3 eqR4
 simp only[aT_,beq_dec',beqI_dec]
 by_cases h1:x.f2=r.f2
 ·rw[if_pos h1]
  by_cases h2:bts x.f3=bts r.f3
  ·rw[if_pos h2]
   congr 1
   simp only[h1,h2,decide_true,Bool.not_true,Bool.false_or,Bool.true_and,Bool.and_true,Bool.or_false,Bool.not_and]
  ·rw[if_neg h2]
   simp[h1,h2]
 ·rw[if_neg h1]
  simp[h1]
theorem q6_eq (apex:ByteArray) (r c:aa_) (hr:szR r) (hc:szR c):impl_breaks_2.f c.f0 c.f1 c.f2 c.f3 apex r.f0 r.f1 r.f2 r.f3=some (q6 apex r c):=by
 unfold impl_breaks_2.f q6
 rw[implBelow_eq r.f0 c.f0 hr.1 hc.1]
 simp only[aT_,beq_dec',Option.bind_some]
 by_cases h1:c.f1=2
 ·rw[if_pos h1]
  by_cases h2:bts c.f0=bts apex
  ·rw[if_pos h2];simp[h2]
  ·rw[if_neg h2]
   cases hb:belowN r.f0 c.f0 with
   | false=>simp
   | true =>
    rw[if_pos rfl]
    by_cases h3:r.f1=1
    ·rw[if_pos h3];simp[h3]
    ·rw[if_neg h3]
     by_cases h4:r.f1=2
     ·rw[if_pos h4];simp[h1,h2,h4]
     ·rw[if_neg h4];simp[h1,h2,h3,h4]
 ·rw[if_neg h1];simp[h1]
section
variable (apex:ByteArray) (l:List aa_) (ha:apex.size≤1048576) (hl:l.length≤1048576) (hs:∀r∈l,szR r)
include ha hl hs
theorem brk_eq (r:aa_) (hr:szR r) (i:Int):Ev (fun k=>impl_breaks.f k apex l r.f0 r.f1 r.f2 r.f3 i) (brk apex l i r):=by
 unfold impl_breaks.f brk
 by_cases h1:i=1
 ·rw[if_pos h1]
  exact Ev.pos h1 (Ev.cbind _ (implBelow_eq r.f0 apex hr.1 ha) (Ev.const rfl))
 ·rw[if_neg h1]
  refine Ev.neg h1 ?_
  by_cases h2:i=2
  ·rw[if_pos h2]
   refine Ev.pos h2 ?_
   by_cases h6:r.f1=6
   ·exact Ev.pos h6 (Ev.const (by simp only[aT_,bneB_dec,h6,decide_true,Bool.true_and]))
   ·exact Ev.neg h6 (Ev.const (by simp[h6]))
  ·rw[if_neg h2]
   refine Ev.neg h2 ?_
   by_cases h3:i=3
   ·rw[if_pos h3]
    have hlen:=atR_len l r.f0 r.f1
    exact Ev.pos h3 (Ev.bind' _ (at_eq l r.f0 r.f1 hl) (Ev.bind' _ (aQ_.any (atR l r.f0 r.f1) r.f0 r.f1 r.f2 r.f3 (q3 r) (by omega) (fun x _=>Ev.const (q3_eq r x))) (Ev.const rfl)))
   ·rw[if_neg h3]
    refine Ev.neg h3 ?_
    by_cases h4:i=4
    ·rw[if_pos h4]
     refine Ev.pos h4 ?_
     by_cases h5:r.f1=5
     ·refine Ev.pos h5 (Ev.bind' _ (at_eq l r.f0 0 hl) (Ev.const ?_))
      rw[show decide (((atR l r.f0 0).length:Int) > 1)=decide ((atR l r.f0 0).length > 1) from decide_eq_decide.mpr (by omega)]
      simp[h5]
     ·exact Ev.neg h5 (Ev.const (by simp[h5]))
    ·rw[if_neg h4]
     refine Ev.neg h4 ?_
     by_cases h5:i=5
     ·rw[if_pos h5]
      refine Ev.pos h5 ?_
      by_cases h6:r.f1=5
      ·exact Ev.pos h6 (Ev.const (by simp only[aT_,beq_dec',h6,decide_true,Bool.true_and]))
      ·exact Ev.neg h6 (Ev.const (by simp[h6]))
     ·rw[if_neg h5]
      exact Ev.neg h5 (Ev.bind' _ (aP_.any l apex r.f0 r.f1 r.f2 r.f3 (q6 apex r) hl (fun c hc=>Ev.const (q6_eq apex r c hr (hs c hc)))) (Ev.const rfl))
theorem brkAny_eq (i:Int):Ev (fun k=>aE_.f k l apex l i) (l.any (brk apex l i)):=by
 refine aE_.any l apex l i (brk apex l i) hl (fun x hx=>?_)
 unfold impl_RuleOf_1.f
 exact Ev.bind' _ (brk_eq apex l ha hl hs x (hs x hx) i) (Ev.const rfl)
def ruleI (apex:ByteArray) (l:List aa_):Int :=
 if l.any (brk apex l 1)=true then 1 else if l.any (brk apex l 2)=true then 2 else if (atR l apex 6).length≠1 then 2 else if l.any (brk apex l 3)=true then 3
 else if l.any (brk apex l 4)=true then 4 else if l.any (brk apex l 5)=true then 5 else if l.any (brk apex l 6)=true then 6 else 0
theorem implRule_loop:Ev (fun k=>bF_.l0 k apex l 1) (ruleI apex l):=by
 have step:∀(i:Int) (q:Int),1≤i→i≤6→i≠2→(l.any (brk apex l i)=false→Ev (fun k=>bF_.l0 k apex l (i+1)) q)→Ev (fun k=>bF_.l0 k apex l i) (if l.any (brk apex l i)=true then i else q):=by
  intro i q h1 h2 h3 h
  apply Ev.succ
  simp only[bF_.l0]
  rw[w64 (i:=i+1) (by omega) (by omega)]
  refine Ev.pos h2 (Ev.bind' _ (brkAny_eq apex l ha hl hs i) ?_)
  cases hb:l.any (brk apex l i) with
  | true=>exact Ev.aK_ (Ev.const rfl)
  | false=>exact Ev.aJ_ (Ev.neg h3 (Ev.eq_ (h hb) (by simp)))
 have last:Ev (fun k=>bF_.l0 k apex l 7) 0:=by
  apply Ev.succ
  simp only[bF_.l0]
  exact Ev.neg (by omega) (Ev.const rfl)
 have step2:∀(q:Int),Ev (fun k=>bF_.l0 k apex l 3) q→Ev (fun k=>bF_.l0 k apex l 2) (if l.any (brk apex l 2)=true then 2 else if (atR l apex 6).length≠1 then 2 else q):=by
  intro q h
  have hw:wrap64 ((2:Int)+1)=3:=by rw[w64 (by omega) (by omega)];rfl
  apply Ev.succ
  simp only[bF_.l0,hw]
  refine Ev.pos (by omega) (Ev.bind' _ (brkAny_eq apex l ha hl hs 2) ?_)
  cases hb:l.any (brk apex l 2) with
  | true=>exact Ev.aK_ (Ev.const rfl)
  | false =>
   refine Ev.aJ_ (Ev.pos (by first|rfl|trivial) (Ev.bind' _ (at_eq l apex 6 hl) ?_))
   by_cases h6:(atR l apex 6).length=1
   ·refine Ev.pos (by omega) (Ev.eq_ h ?_)
    simp[h6]
   ·refine Ev.neg (by omega) (Ev.const ?_)
    simp[h6]
 unfold ruleI
 exact step 1 _ (by omega) (by omega) (by omega) (fun _=>step2 _ (step 3 _ (by omega) (by omega) (by omega) (fun _=>step 4 _ (by omega) (by omega) (by omega) (fun _=>step 5 _ (by omega) (by omega) (by omega) (fun _=>step 6 _ (by omega) (by omega) (by omega) (fun _=>last))))))
theorem implRuleOf_eq:Ev (fun k=>bF_.f k apex l) (if (apexOk apex&&decide (l.length≤40)&&rises l)=true then ruleI apex l else 9):=by
 unfold bF_.f
 have hw:Ev (fun k=>impl_isWhole.f k apex l) (apexOk apex&&decide (l.length≤40)&&rises l):=by
  unfold impl_isWhole.f
  refine Ev.bind' _ (implApex_eq apex ha) ?_
  cases apexOk apex with
  | false=>exact Ev.aJ_ (Ev.const (by simp))
  | true =>
   refine Ev.aK_ ?_
   by_cases h40:(l.length:Int)≤40
   ·have h40':l.length≤40:=by omega
    exact Ev.pos h40 (Ev.bind' _ (areRising_eq l hl hs) (Ev.const (by simp[h40'])))
   ·have h40':¬l.length≤40:=by omega
    exact Ev.neg h40 (Ev.const (by simp[h40']))
 refine Ev.bind' _ hw ?_
 cases(apexOk apex&&decide (l.length≤40)&&rises l) with
 | true=>exact Ev.aK_ (Ev.eq_ (implRule_loop apex l ha hl hs) (by simp))
 | false=>exact Ev.aJ_ (Ev.const (by simp))
end
end
theorem pw_all {α:Type} {R:α→α→Prop} (hsym:∀a b,R a b→R b a) (hrf:∀a,R a a):∀(l:List α),l.Pairwise R→∀x∈l,∀y∈l,R x y
 | [],_,x,hx,_,_=>by cases hx
 | a::t,h,x,hx,y,hy=>by
  obtain⟨h1,h2⟩:=List.pairwise_cons.mp h
  rcases List.mem_cons.mp hx with e1|hx1
  ·rcases List.mem_cons.mp hy with e2|hy1
   ·rw[e1,e2];exact hrf _
   ·rw[e1];exact h1 y hy1
  ·rcases List.mem_cons.mp hy with e2|hy1
   ·rw[e2];exact hsym _ _ (h1 x hx1)
   ·exact pw_all hsym hrf t h2 x hx1 y hy1
theorem soa_split (apex:ByteArray) (l:List aa_):soaN apex l=(atR l apex 6).length+2 * (l.filter (brk apex l 2)).length:=by
 have hq:(brk apex l 2)=fun r=>decide (r.f1=6) && !decide (bts r.f0=bts apex):=by
  funext r
  unfold brk
  rw[if_neg (by omega),if_pos rfl]
 rw[hq]
 clear hq
 induction l with
 | nil=>simp[soaN,atR]
 | cons r t ih =>
  simp only[soaN,ih]
  unfold atR soa1
  by_cases h1:r.f1=6
  ·by_cases h2:bts r.f0=bts apex
   ·rw[List.filter_cons_of_pos (by simp[h1,h2]),List.filter_cons_of_neg (by simp[h1,h2]),if_pos h1,if_pos h2]
    simp only[List.length_cons]
    omega
   ·rw[List.filter_cons_of_neg (by simp[h1,h2]),List.filter_cons_of_pos (by simp[h1,h2]),if_pos h1,if_neg h2]
    simp only[List.length_cons]
    omega
  ·rw[List.filter_cons_of_neg (by simp[h1]),List.filter_cons_of_neg (by simp[h1]),if_neg h1]
   omega
theorem any_filter {α:Type} (q:α→Bool) (l:List α):l.any q=false↔(l.filter q).length=0:=by
 rw[List.length_eq_zero_iff,List.filter_eq_nil_iff,List.any_eq_false]
theorem adj3_false:∀(t:List aa_) (a:aa_),adj3 (some a) t=false→(a::t).Pairwise (fun x y=>cmpRec x y<0)→(∀x∈t,cmpK a x=0→a.f2=x.f2)∧t.Pairwise (fun x y=>cmpK x y=0→x.f2=y.f2)
 | [],a,_,_=>by simp
 | b::u,a,h,hp=>by
  obtain⟨p1,p2⟩:=List.pairwise_cons.mp hp
  obtain⟨p3,p4⟩:=List.pairwise_cons.mp p2
  have hq:adj3 (some a) (b::u)=(bad3 a b||adj3 (some b) u):=rfl
  rw[hq,Bool.or_eq_false_iff] at h
  obtain⟨h1,h2⟩:=h
  obtain⟨i1,i2⟩:=adj3_false u b h2 p2
  have hab:cmpK a b=0→a.f2=b.f2:=by
   intro hk
   obtain⟨k1,k2⟩:=cmpK_zero.mp hk
   unfold bad3 at h1
   by_cases h3:a.f2=b.f2
   ·exact h3
   ·simp[k1,k2,h3] at h1
  refine⟨?_,List.pairwise_cons.mpr ⟨i1,i2⟩⟩
  intro x hx hk
  rcases List.mem_cons.mp hx with rfl|hx
  ·exact hab hk
  ·have k1:=cmpRec_key (Int.le_of_lt (p1 b (by simp)))
   have k2:=cmpRec_key (Int.le_of_lt (p3 x hx))
   have k3:cmpK a b=0:=by
    by_cases h5:cmpK a b=0
    ·exact h5
    ·have:=cmpK_cmp.lt_le (a:=a) (b:=b) (d:=x) (by omega) k2
     omega
   have k4:cmpK b x=0:=by
    by_cases h5:cmpK b x=0
    ·exact h5
    ·have:=cmpK_cmp.le_lt (a:=a) (b:=b) (d:=x) (by omega) (by omega)
     omega
   rw[hab k3,i1 x hx k4]
theorem adj3_true:∀(t:List aa_) (a:aa_),adj3 (some a) t=true→(a::t).Pairwise (fun x y=>cmpRec x y<0)→∃u v,u∈a::t∧v∈a::t∧bad3 u v=true∧cmpRec u v<0
 | [],a,h,_=>by cases h
 | b::u,a,h,hp=>by
  obtain⟨p1,p2⟩:=List.pairwise_cons.mp hp
  have hq:adj3 (some a) (b::u)=(bad3 a b||adj3 (some b) u):=rfl
  rw[hq,Bool.or_eq_true] at h
  rcases h with h|h
  ·exact⟨a,b,by simp,by simp,h,p1 b (by simp)⟩
  ·obtain⟨x,y,hx,hy,h1,h2⟩:=adj3_true u b h p2
   exact⟨x,y,List.mem_cons_of_mem _ hx,List.mem_cons_of_mem _ hy,h1,h2⟩
theorem brk3_at (apex:ByteArray) (l:List aa_) (r:aa_):brk apex l 3 r=(atR l r.f0 r.f1).any (q3 r):=by
 unfold brk
 rw[if_neg (by omega),if_neg (by omega),if_pos rfl]
theorem brk4_at (apex:ByteArray) (l:List aa_) (r:aa_):brk apex l 4 r=(decide (r.f1=5)&&decide ((atR l r.f0 0).length > 1)):=by
 unfold brk
 rw[if_neg (by omega),if_neg (by omega),if_neg (by omega),if_pos rfl]
theorem brk6_at (apex:ByteArray) (l:List aa_) (r:aa_):brk apex l 6 r=l.any (q6 apex r):=by
 unfold brk
 rw[if_neg (by omega),if_neg (by omega),if_neg (by omega),if_neg (by omega),if_neg (by omega)]
theorem mem_atR {l:List aa_} {s:ByteArray} {k:Int} {x:aa_}:x∈atR l s k↔x∈l∧bts x.f0=bts s∧(k=0∨x.f1=k):=by
 unfold atR
 rw[List.mem_filter]
 simp only[Bool.and_eq_true,decide_eq_true_eq,Bool.or_eq_true]
theorem okR_type {r:aa_} (h:okR r=true):r.f1=1∨r.f1=2∨r.f1=5∨r.f1=6∨r.f1=15∨r.f1=16:=by
 have h1:=okR_data h
 unfold dataOk at h1
 by_cases e1:r.f1=1
 ·exact Or.inl e1
 ·rw[if_neg e1] at h1
  by_cases e2:r.f1=2∨r.f1=5
  ·omega
  ·rw[if_neg e2] at h1
   by_cases e3:r.f1=6
   ·omega
   ·rw[if_neg e3] at h1
    by_cases e4:r.f1=15
    ·omega
    ·rw[if_neg e4] at h1
     by_cases e5:r.f1=16
     ·omega
     ·rw[if_neg e5] at h1
      cases h1
theorem rule3_same (apex:ByteArray) (l:List aa_) (hp:l.Pairwise (fun x y=>cmpRec x y<0)) (hok:∀r∈l,okR r=true):l.any (brk apex l 3)=adj3 none l:=by
 have two:adj3 none l=false→∀x∈l,∀y∈l,cmpK x y=0→x.f2=y.f2:=by
  intro h
  refine pw_all (R:=fun x y=>cmpK x y=0→x.f2=y.f2) (fun a b h1 h2=>(h1 (by have:=cmpK_cmp.anti a b;omega)).symm) (fun _ _=>rfl) l ?_
  cases l with
  | nil=>exact List.Pairwise.nil
  | cons a t =>
   obtain⟨i1,i2⟩:=adj3_false t a h hp
   exact List.pairwise_cons.mpr ⟨i1,i2⟩
 cases hA:adj3 none l with
 | false =>
  rw[List.any_eq_false]
  intro r hr hb
  rw[brk3_at,List.any_eq_true] at hb
  obtain⟨x,hx,hq⟩:=hb
  obtain⟨m1,m2,m3⟩:=mem_atR.mp hx
  have h1:x.f1=r.f1:=by
   have:=okR_type (hok r hr)
   rcases m3 with h0|h1
   ·omega
   ·exact h1
  have h2:=two hA r hr x m1 (cmpK_zero.mpr ⟨m2.symm,h1.symm⟩)
  unfold q3 eqR4 at hq
  simp[h1,h2,m2] at hq
 | true =>
  rw[List.any_eq_true]
  cases l with
  | nil=>cases hA
  | cons a t =>
   obtain⟨u,v,hu,hv,h1,h2⟩:=adj3_true t a hA hp
   unfold bad3 at h1
   simp only[Bool.and_eq_true,decide_eq_true_eq,Bool.or_eq_true,Bool.not_eq_true',decide_eq_false_iff_not] at h1
   obtain⟨⟨h3,h4⟩,h5⟩:=h1
   have h6:u.f2≠v.f2:=by
    intro h7
    rcases h5 with h5|h5
    ·exact h5 h7
    ·have e1:=cU_ h3
     have e2:=cU_ h5
     have:u=v:=by
      cases u;cases v
      simp only at e1 e2 h4 h7
      subst e1 e2 h4 h7
      rfl
     rw[this] at h2
     have:=cmpRec_cmp.self v
     omega
   refine⟨u,hu,?_⟩
   rw[brk3_at,List.any_eq_true]
   refine⟨v,mem_atR.mpr ⟨hv,h3.symm,Or.inr h4.symm⟩,?_⟩
   unfold q3
   have:¬v.f2=u.f2:=fun h=>h6 h.symm
   simp[this]
theorem pair4_iff:∀(t p:List aa_),pair4 p t=true↔∃u x v,t=u++x::v∧(p++u).any (fun o=>bad4 o x)=true
 | [],p=>by
  have:pair4 p []=false:=by cases p<;>rfl
  rw[this]
  constructor
  ·intro h;cases h
  ·rintro⟨u,x,v,h,_⟩
   have:=congrArg List.length h
   simp at this
 | y::t,p=>by
  have hq:pair4 p (y::t)=(p.any (fun o=>bad4 o y)||pair4 (p++[y]) t):=by cases p<;>rfl
  rw[hq,Bool.or_eq_true,pair4_iff t (p++[y])]
  constructor
  ·rintro(h|⟨u,x,v,h1,h2⟩)
   ·exact⟨[],y,t,rfl,by simpa using h⟩
   ·exact⟨y::u,x,v,by rw[h1];rfl,by simpa using h2⟩
  ·rintro⟨u,x,v,h1,h2⟩
   cases u with
   | nil =>
    simp only[List.nil_append,List.cons.injEq] at h1
    obtain⟨rfl,rfl⟩:=h1
    exact Or.inl (by simpa using h2)
   | cons z u =>
    simp only[List.cons_append,List.cons.injEq] at h1
    obtain⟨rfl,rfl⟩:=h1
    exact Or.inr ⟨u,x,v,rfl,by simpa using h2⟩
theorem at0_len (s:ByteArray) (p:List aa_) (r:aa_) (t:List aa_) (h:bts r.f0=bts s):(atR (p++r::t) s 0).length=(atR p s 0).length+((atR t s 0).length+1):=by
 unfold atR
 rw[List.filter_append,List.filter_cons_of_pos (by simp[h]),List.length_append,List.length_cons]
theorem rule4_same (apex:ByteArray) (l:List aa_):l.any (brk apex l 4)=pair4 [] l:=by
 rw[Bool.eq_iff_iff,List.any_eq_true,pair4_iff]
 constructor
 ·rintro⟨r,hr,hb⟩
  rw[brk4_at] at hb
  simp only[Bool.and_eq_true,decide_eq_true_eq] at hb
  obtain⟨h5,hlen⟩:=hb
  obtain⟨p,t,e⟩:=List.append_of_mem hr
  have hl:(atR l r.f0 0).length=(atR p r.f0 0).length+((atR t r.f0 0).length+1):=by rw[e];exact at0_len _ _ _ _ rfl
  by_cases hp:0<(atR p r.f0 0).length
  ·obtain⟨o,ho⟩:=List.length_pos_iff_exists_mem.mp hp
   obtain⟨m1,m2,_⟩:=mem_atR.mp ho
   refine⟨p,r,t,e,?_⟩
   rw[List.nil_append,List.any_eq_true]
   exact⟨o,m1,by unfold bad4;simp[m2,h5]⟩
  ·have ht:0<(atR t r.f0 0).length:=by omega
   obtain⟨x,hx⟩:=List.length_pos_iff_exists_mem.mp ht
   obtain⟨m1,m2,_⟩:=mem_atR.mp hx
   obtain⟨u,v,e2⟩:=List.append_of_mem m1
   refine⟨p++r::u,x,v,by rw[e,e2];simp,?_⟩
   rw[List.nil_append,List.any_eq_true]
   exact⟨r,by simp,by unfold bad4;simp[m2,h5]⟩
 ·rintro⟨u,x,v,e,h⟩
  rw[List.nil_append,List.any_eq_true] at h
  obtain⟨o,ho,hb⟩:=h
  unfold bad4 at hb
  simp only[Bool.and_eq_true,decide_eq_true_eq,Bool.or_eq_true] at hb
  obtain⟨hn,h5⟩:=hb
  obtain⟨a,b,e2⟩:=List.append_of_mem ho
  have hpx:0<(atR u x.f0 0).length:=List.length_pos_iff_exists_mem.mpr ⟨o,mem_atR.mpr ⟨ho,hn,Or.inl rfl⟩⟩
  have hlx:(atR l x.f0 0).length=(atR u x.f0 0).length+((atR v x.f0 0).length+1):=by rw[e];exact at0_len _ _ _ _ rfl
  rcases h5 with h5|h5
  ·refine⟨o,by rw[e];simp[ho],?_⟩
   rw[brk4_at]
   have hso:atR l o.f0 0=atR l x.f0 0:=by unfold atR;rw[hn]
   rw[hso]
   simp[h5]
   omega
  ·refine⟨x,by rw[e];simp,?_⟩
   rw[brk4_at]
   simp[h5]
   omega
theorem rule6_same (apex:ByteArray) (l:List aa_) (hb:∀r∈l,belowN r.f0 apex=true):l.any (brk apex l 6)=l.any (bad6 apex l):=by
 have main:∀r∈l,brk apex l 6 r=bad6 apex l r:=by
  intro r hr
  have hu:=ups_mem apex (r.f0.size+1) r.f0
  have hmem:=fun c=>hu c (by omega) (hb r hr)
  rw[brk6_at,Bool.eq_iff_iff,List.any_eq_true]
  constructor
  ·rintro⟨c,hc,hq⟩
   unfold q6 at hq
   simp only[Bool.and_eq_true,decide_eq_true_eq,Bool.not_eq_true',decide_eq_false_iff_not,Bool.and_eq_false_iff] at hq
   obtain⟨⟨⟨⟨h1,h2⟩,h3⟩,h4⟩,h5⟩:=hq
   have hin:=(hmem c.f0).mpr ⟨h3,hb c hc,h2⟩
   have hT:hasT l c.f0 2=true:=by
    unfold hasT
    rw[List.any_eq_true]
    exact⟨c,hc,by simp[h1]⟩
   have hhas:(cutOf apex l r.f0).2=true:=by
    unfold cutOf
    rw[cutSt_has,Bool.false_or,List.any_eq_true]
    exact⟨c.f0,hin,hT⟩
   unfold bad6
   rw[hhas]
   by_cases h6:r.f1=2
   ·have h7:¬bts r.f0=bts c.f0:=h5.resolve_left (fun h=>h h6)
    have hne:¬bts r.f0=bts apex:=by
     intro h8
     have e8:=cU_ h8
     rw[e8] at h3
     exact h2 (below_antisymm (hb c hc) h3)
    have hups:ups apex (r.f0.size+1) r.f0=r.f0::ups apex r.f0.size (parentN r.f0):=by
     rw[show ups apex (r.f0.size+1) r.f0=if bts r.f0=bts apex then [] else r.f0::ups apex r.f0.size (parentN r.f0) from rfl,if_neg hne]
    have hin2:c.f0∈ups apex r.f0.size (parentN r.f0):=by
     rw[hups] at hin
     rcases List.mem_cons.mp hin with h|h
     ·exact absurd (by rw[h]) h7
     ·exact h
    have hcut:¬bts r.f0=bts (cutOf apex l r.f0).1:=by
     intro h8
     unfold cutOf at h8
     rw[hups] at h8
     have hstep:cutSt l ((⟨#[]⟩:ByteArray),false) (r.f0::ups apex r.f0.size (parentN r.f0))=cutSt l (cutStep l ((⟨#[]⟩:ByteArray),false) r.f0) (ups apex r.f0.size (parentN r.f0)):=rfl
     rw[hstep] at h8
     rcases cutSt_mem l (ups apex r.f0.size (parentN r.f0)) (cutStep l ((⟨#[]⟩:ByteArray),false) r.f0) with ⟨_,h9⟩|⟨h9,_⟩
     ·rw[List.any_eq_false] at h9
      exact h9 _ hin2 hT
     ·have h10:=ups_size apex _ _ _ h9
      have h11:=parent_lt (below_parent (hb r hr) hne).1
      have h12:=cU_ h8
      rw[←h12] at h10
      omega
    simp[h4,hcut]
   ·simp[h4,h6]
  ·intro hq
   unfold bad6 at hq
   simp only[Bool.and_eq_true,decide_eq_true_eq,Bool.not_eq_true',decide_eq_false_iff_not,Bool.or_eq_true] at hq
   obtain⟨⟨h1,h2⟩,h3⟩:=hq
   unfold cutOf at h1 h3
   rcases cutSt_mem l (ups apex (r.f0.size+1) r.f0) ((⟨#[]⟩:ByteArray),false) with ⟨h4,_⟩|⟨h4,h5⟩
   ·rw[h4] at h1
    cases h1
   ·obtain⟨m1,m2,m3⟩:=(hmem _).mp h4
    unfold hasT at h5
    rw[List.any_eq_true] at h5
    obtain⟨c,hc,hq⟩:=h5
    simp only[Bool.and_eq_true,decide_eq_true_eq] at hq
    have hce:=cU_ hq.1
    refine⟨c,hc,?_⟩
    unfold q6
    rw[hce,m1]
    simp only[hq.2,decide_true,Bool.true_and,Bool.and_true,Bool.and_eq_true,Bool.not_eq_true',decide_eq_false_iff_not,Bool.and_eq_false_iff]
    exact⟨⟨m3,h2⟩,h3⟩
 rw[Bool.eq_iff_iff,List.any_eq_true,List.any_eq_true]
 constructor
 ·rintro⟨r,hr,h⟩
  exact⟨r,hr,by rw[←main r hr];exact h⟩
 ·rintro⟨r,hr,h⟩
  exact⟨r,hr,by rw[main r hr];exact h⟩
theorem rule_same (apex:ByteArray) (l:List aa_) (hr:rises l=true):ruleI apex l=ruleN apex l:=by
 obtain⟨hp,hok⟩:=rises_all hr
 have h1:brk apex l 1=fun r => !belowN r.f0 apex:=by
  funext r
  unfold brk
  rw[if_pos rfl]
 have h5:l.any (brk apex l 5)=hasT l apex 5:=by
  unfold hasT
  congr 1
  funext r
  unfold brk
  rw[if_neg (by omega),if_neg (by omega),if_neg (by omega),if_neg (by omega),if_pos rfl,Bool.and_comm]
 unfold ruleI ruleN
 rw[h1]
 by_cases hb:l.any (fun r => !belowN r.f0 apex)=true
 ·rw[if_pos hb,if_pos hb]
 ·rw[if_neg hb,if_neg hb]
  have hb':∀r∈l,belowN r.f0 apex=true:=by
   intro r hr
   cases hx:belowN r.f0 apex with
   | true=>rfl
   | false=>exact absurd (List.any_eq_true.mpr ⟨r,hr,by simp[hx]⟩) hb
  have hs:=soa_split apex l
  by_cases h2:l.any (brk apex l 2)=true
  ·rw[if_pos h2]
   have:¬(l.filter (brk apex l 2)).length=0:=fun h=>by
    rw[(any_filter _ _).mpr h] at h2
    cases h2
   rw[if_neg (show ¬soaN apex l=1 by omega)]
  ·rw[if_neg h2]
   have hz:=(any_filter (brk apex l 2) l).mp (by simpa using h2)
   by_cases h6:(atR l apex 6).length=1
   ·rw[if_neg (show ¬(atR l apex 6).length≠1 by omega),if_pos (show soaN apex l=1 by omega),rule3_same apex l hp hok,rule4_same,h5,rule6_same apex l hb']
    rfl
   ·rw[if_pos h6,if_neg (show ¬soaN apex l=1 by omega)]
section
def soaT (c:Int):List UInt8:=Go.Lib.itoa (Int.tmod c 4294967296)
theorem num_step (n:Int) (h0:0≤n) (h1:n<10):strOfNums [(wrap64 (48+n)) % 256]=⟨([UInt8.ofNat (48+n.toNat)]:List UInt8).toArray⟩:=by
 rw[w64 (by omega) (by omega)]
 apply cU_
 rw[ch_]
 show([(48+n) % 256]:List Int).map (fun n=>UInt8.ofNat n.toNat)=_
 simp only[List.map_cons,List.map_nil]
 congr 2
 omega
theorem l1Num_eq:∀(m:Nat) (n:Int),n.toNat≤m→0≤n→n≤9223372036854775807→Ev (fun k=>b4_.f k n) ⟨(Go.Lib.decDigits n.toNat).toArray⟩∧(Go.Lib.decDigits n.toNat).length≤n.toNat+1
 | 0,n,hm,h0,h1=>by
  have:n=0:=by omega
  subst this
  have hd:Go.Lib.decDigits (0:Int).toNat=[UInt8.ofNat 48]:=Go.Lib.decDigits_one (by decide)
  refine⟨Ev.succ ?_,by rw[hd];simp⟩
  simp only[b4_.f]
  refine Ev.pos (by omega) (Ev.const ?_)
  rw[num_step 0 (by omega) (by omega),hd]
  rfl
 | m+1,n,hm,h0,h1=>by
  by_cases h:n<10
  ·have hd:Go.Lib.decDigits n.toNat=[UInt8.ofNat (48+n.toNat)]:=Go.Lib.decDigits_one (by omega)
   refine⟨Ev.succ ?_,by rw[hd];simp⟩
   simp only[b4_.f]
   refine Ev.pos h (Ev.const ?_)
   rw[num_step n h0 h,hd]
  ·have hd:Go.Lib.decDigits n.toNat=Go.Lib.decDigits (n.toNat / 10)++[UInt8.ofNat (48+n.toNat % 10)]:=by
    conv=>lhs;rw[Go.Lib.decDigits]
    rw[dif_neg (by omega)]
   have e1:Int.tdiv n 10=n / 10:=Int.tdiv_eq_ediv_of_nonneg h0
   have e2:Int.tmod n 10=n % 10:=Int.tmod_eq_emod_of_nonneg h0
   have e3:(n / 10).toNat=n.toNat / 10:=by omega
   have e4:(n % 10).toNat=n.toNat % 10:=by omega
   obtain⟨i1,i2⟩:=l1Num_eq m (n / 10) (by omega) (by omega) (by omega)
   rw[e3] at i1 i2
   refine⟨Ev.succ ?_,by rw[hd];simp;omega⟩
   simp only[b4_.f]
   have hs1:strOfNums [(wrap64 (48+n % 10)) % 256]=⟨([UInt8.ofNat (48+n.toNat % 10)]:List UInt8).toArray⟩:=by
    rw[num_step (n % 10) (by omega) (by omega),e4]
   rw[e1,e2,w64 (i:=n / 10) (by omega) (by omega)]
   refine Ev.neg h (Ev.bind' _ i1 (Ev.cbind _ rfl (Ev.pos ?_ (Ev.const ?_))))
   ·rw[hs1,be_,ch_,be_,ch_]
    simp only[List.length_cons,List.length_nil]
    omega
   ·rw[hs1,hd,Option.some.injEq]
    apply cU_
    unfold bts
    rw[ByteArray.data_append]
    simp
theorem soa_range (c:Int) (h0:0≤c):0≤Int.tmod c 4294967296∧Int.tmod c 4294967296<4294967296:=by
 rw[Int.tmod_eq_emod_of_nonneg h0]
 omega
theorem soaT_dec (c:Int) (h0:0≤c):soaT c=Go.Lib.decDigits (Int.tmod c 4294967296).toNat:=by
 have:=soa_range c h0
 unfold soaT Go.Lib.itoa
 rw[if_neg (by omega)]
theorem l6Soa_eq (a:ByteArray) (c:Int) (l:List aa_) (h0:0≤c):Ev (fun k=>spec_l6Soa.f k a c l) ⟨(soaT c).toArray⟩:=by
 have:=soa_range c h0
 unfold spec_l6Soa.f
 rw[soaT_dec c h0]
 exact Ev.bind' _ (l1Num_eq _ _ (Nat.le_refl _) (by omega) (by omega)).1 (Ev.const rfl)
theorem serial_eq (c:Int) (h0:0≤c):impl_serialText.f c=some ⟨(soaT c).toArray⟩:=by
 have:=soa_range c h0
 unfold impl_serialText.f strconv_Itoa.f
 rw[if_pos (by omega)]
 rfl
def zoneOk (apex:ByteArray) (c:Int) (l:List aa_):Bool:=inR c 0 1152921504606846976&&(apexOk apex&&decide (l.length≤40)&&rises l)&&decide (ruleN apex l=0)&&l.all (fun r => !decide (r.f1=6)||decide (bts r.f3=soaT c))
theorem inR_lo {c a b:Int} (h:inR c a b=true):a≤c∧c≤b:=by
 unfold inR at h
 exact of_decide_eq_true h
section
variable (apex:ByteArray) (c:Int) (l:List aa_) (ha:apex.size≤1048576) (hl:l.length≤1048576) (hs:∀r∈l,szR r)
include ha hl hs
theorem specRuleOf_eq:Ev (fun k=>spec_RuleOf.f k apex l) (if (apexOk apex&&decide (l.length≤40)&&rises l)=true then ruleN apex l else 9):=by
 unfold spec_RuleOf.f
 refine Ev.bind' _ (specApex_eq apex ha) ?_
 cases apexOk apex with
 | false=>exact Ev.aJ_ (Ev.const (by simp))
 | true =>
  refine Ev.aK_ (Ev.bind' _ (specList_eq l hl hs) ?_)
  cases hr:rises l with
  | false=>exact Ev.aJ_ (Ev.const (by simp))
  | true =>
   by_cases h40:l.length≤40
   ·rw[decide_eq_true h40]
    exact Ev.aK_ (Ev.bind' _ (specRule_eq apex l ha hl hs) (Ev.const (by simp)))
   ·rw[decide_eq_false h40]
    exact Ev.aJ_ (Ev.const (by simp))
theorem implRuleOf_same:Ev (fun k=>bF_.f k apex l) (if (apexOk apex&&decide (l.length≤40)&&rises l)=true then ruleN apex l else 9):=by
 refine Ev.eq_ (implRuleOf_eq apex l ha hl hs) ?_
 by_cases h:(apexOk apex&&decide (l.length≤40)&&rises l)=true
 ·rw[if_pos h,if_pos h]
  simp only[Bool.and_eq_true] at h
  exact rule_same apex l h.2
 ·rw[if_neg h,if_neg h]
theorem specZone_eq:Ev (fun k=>aL_.f k apex c l) (zoneOk apex c l):=by
 unfold aL_.f zoneOk
 have bad:Ev (fun k=>aL_.j0 k true apex c l) false:=by
  apply Ev.succ
  simp only[aL_.j0]
  exact Ev.pos (by first|rfl|trivial) (Ev.const rfl)
 refine Ev.cbind _ (l1In_eq _ _ _) ?_
 cases hc:inR c 0 1152921504606846976 with
 | false=>exact Ev.aJ_ (Ev.eq_ bad (by simp))
 | true =>
  have hc0:=inR_lo hc
  refine Ev.aK_ (Ev.bind' _ (specRuleOf_eq apex l ha hl hs) ?_)
  by_cases hw:(apexOk apex&&decide (l.length≤40)&&rises l)=true
  ·rw[if_pos hw,hw]
   by_cases h0:ruleN apex l=0
   ·rw[h0]
    apply Ev.succ
    simp only[aL_.j0]
    refine Ev.neg (by simp) ?_
    refine Ev.eq_ (a1_ l (fun k (_:Unit) i=>aL_.l0 k l (l.length:Int) i apex c l) (fun _ t=>t.all (fun r => !decide (r.f1=6)||decide (bts r.f3=soaT c))) (fun _ _=>True) ?_ ?_ () trivial) (by simp)
    ·intro _ _
     apply Ev.succ
     simp only[aL_.l0]
     exact Ev.neg (by omega) (Ev.const (by simp))
    ·intro p x t _ e _ ih
     have hm:=a7_ e
     apply Ev.succ
     simp only[aL_.l0,a_,bP_ e,aT_]
     rw[w64 (i:=(p.length:Int)+1) (by omega) (by omega)]
     refine Ev.pos hm.1 (Ev.pos (by omega) (Ev.pos hm.1 ?_))
     by_cases h6:x.f1=6
     ·refine Ev.pos h6 (Ev.bind' _ (l6Soa_eq apex c l hc0.1) ?_)
      rw[ch_]
      by_cases h7:bts x.f3=soaT c
      ·exact Ev.pos h7 (Ev.eq_ (ih () trivial) (by simp[h7]))
      ·exact Ev.neg h7 (Ev.const (by simp[h6,h7]))
     ·exact Ev.neg h6 (Ev.eq_ (ih () trivial) (by simp[h6]))
   ·have hb:(ruleN apex l != 0)=true:=bne_iff_ne.mpr h0
    rw[hb]
    exact Ev.eq_ bad (by simp[h0])
  ·rw[if_neg hw]
   have hf:(apexOk apex&&decide (l.length≤40)&&rises l)=false:=by simpa using hw
   rw[hf]
   exact Ev.eq_ bad (by simp)
theorem implZone_eq:Ev (fun k=>bq_.f k apex c l) (zoneOk apex c l):=by
 unfold bq_.f zoneOk
 have hcn:impl_isCounter.f c=some (inR c 0 1152921504606846976):=by
  unfold impl_isCounter.f
  rw[within_eq]
  rfl
 refine Ev.cbind _ hcn ?_
 cases hc:inR c 0 1152921504606846976 with
 | false=>exact Ev.aJ_ (Ev.const (by simp))
 | true =>
  have hc0:=inR_lo hc
  refine Ev.aK_ (Ev.bind' _ (implRuleOf_same apex l ha hl hs) ?_)
  by_cases hw:(apexOk apex&&decide (l.length≤40)&&rises l)=true
  ·rw[if_pos hw,hw]
   by_cases h0:ruleN apex l=0
   ·refine Ev.pos h0 (Ev.bind' _ (at_eq l apex 6 hl) ?_)
    have hso:l.any (fun r => !belowN r.f0 apex)=false∧soaN apex l=1:=by
     unfold ruleN at h0
     by_cases h1:l.any (fun r => !belowN r.f0 apex)=true
     ·rw[if_pos h1] at h0;omega
     ·rw[if_neg h1] at h0
      by_cases h2:soaN apex l=1
      ·exact⟨by simpa using h1,h2⟩
      ·rw[if_neg h2] at h0;omega
    have hsp:=soa_split apex l
    have hat:(atR l apex 6).length=1:=by omega
    have hno:=(any_filter (brk apex l 2) l).mpr (by omega)
    obtain⟨z,hz⟩:∃z,atR l apex 6=[z]:=List.length_eq_one_iff.mp hat
    rw[hz]
    refine Ev.pos (by simp) (Ev.cbind _ (serial_eq c hc0.1) (Ev.const ?_))
    have hzm:z∈atR l apex 6:=by rw[hz];simp
    obtain⟨z1,z2,z3⟩:=mem_atR.mp hzm
    have z4:z.f1=6:=by rcases z3 with h|h;omega;exact h
    have hr0:a_ [z] 0=z:=rfl
    rw[hr0,aT_,aT_,ch_,beq_dec',decide_eq_true h0,Option.some.injEq,Bool.eq_iff_iff]
    simp only[Bool.true_and,Bool.and_true,List.all_eq_true,Bool.or_eq_true,Bool.not_eq_true',decide_eq_false_iff_not,decide_eq_true_eq]
    constructor
    ·intro h r hr
     by_cases h6:r.f1=6
     ·right
      have hra:bts r.f0=bts apex:=by
       rw[List.any_eq_false] at hno
       have:=hno r hr
       unfold brk at this
       rw[if_neg (by omega),if_pos rfl] at this
       simpa[h6] using this
      have:r∈atR l apex 6:=mem_atR.mpr ⟨hr,hra,Or.inr h6⟩
      rw[hz,List.mem_singleton] at this
      rw[this]
      exact h
     ·exact Or.inl h6
    ·intro h
     exact(h z z1).resolve_left (fun h=>h z4)
   ·exact Ev.neg h0 (Ev.const (by simp[h0]))
  ·rw[if_neg hw]
   have hf:(apexOk apex&&decide (l.length≤40)&&rises l)=false:=by simpa using hw
   rw[hf]
   exact Ev.neg (by omega) (Ev.const (by simp))
end
end
theorem zone_names {a:ByteArray} {c:Int} {l:List aa_} (h:zoneOk a c l=true):l.length≤40∧l.Pairwise (fun x y=>cmpRec x y<0)∧∀r∈l,okN r.f0:=by
 unfold zoneOk at h
 simp only[Bool.and_eq_true,decide_eq_true_eq] at h
 obtain⟨⟨⟨_,⟨⟨_,h2⟩,h3⟩⟩,_⟩,_⟩:=h
 obtain⟨h4,h5⟩:=rises_all h3
 refine⟨h2,h4,fun r hr=>?_⟩
 obtain⟨h6,h7⟩:=nameOk_labels (okR_name (h5 r hr))
 exact⟨by rw[be_];omega,h6⟩
def gapsZ (a:ByteArray) (c:Int) (l:List aa_):List aD_ × Bool:=if zoneOk a c l=true then(gapsR l,true) else([],false)
theorem aj_.idx (l0:List (aa_)) (a1_0:ByteArray) (q:(aa_)→Bool) (hl:l0.length≤1048576) (h:∀x∈l0,Ev (fun k=>impl_isThere_1.f (x.f0) (x.f1) (x.f2) (x.f3) a1_0) (q x)):Ev (fun k=>aj_.f k l0 a1_0) (idxP q l0):=by
 unfold aj_.f
 refine Ev.eq_ (a1_ l0 (fun k (_:Nat) i=>aj_.l0 k l0 (l0.length:Int) i a1_0) (fun n t=>if 0≤idxP q t then(n:Int)+idxP q t else -1) (fun p n=>n=p.length) ?_ ?_ 0 rfl) ?_
 ·intro n hn
  apply Ev.succ
  simp only[aj_.l0]
  exact Ev.neg (by omega) (Ev.const (by simp[idxP]))
 ·intro p x t n e hn ih
  have hm:=a7_ e
  have hx:=h x (cF_ e)
  apply Ev.succ
  simp only[aj_.l0,a_,bP_ e]
  refine Ev.pos hm.1 (Ev.pos (by omega) (Ev.pos hm.1 (Ev.bind' _ hx ?_)))
  have hq:idxP q (x::t)=(if q x then 0 else if 0≤idxP q t then idxP q t+1 else -1):=rfl
  rw[hq]
  cases q x with
  | true=>exact Ev.aK_ (Ev.const (by simp[hn]))
  | false =>
   refine Ev.aJ_ ?_
   rw[w64 (by omega) (by omega)]
   refine Ev.eq_ (ih (n+1) (by simp[hn])) ?_
   by_cases h2:0≤idxP q t
   ·simp[h2];omega
   ·simp[h2]
 ·by_cases h2:0≤idxP q l0
  ·simp[h2]
  ·rw[if_neg h2]
   exact(idxP_neg q l0 h2).symm
theorem aO_.any (l0:List (aa_)) (a1_0:ByteArray) (q:(aa_)→Bool) (hl:l0.length≤1048576) (h:∀x∈l0,Ev (fun k=>impl_isThere_1.f (x.f0) (x.f1) (x.f2) (x.f3) a1_0) (q x)):Ev (fun k=>aO_.f k l0 a1_0) (l0.any q):=by
 unfold aO_.f
 refine Ev.bind' _ (aj_.idx l0 a1_0 q hl h) (Ev.const ?_)
 rw[idxP_nonneg]
section
def thereN (apex:ByteArray) (l:List aa_) (s:ByteArray):Bool:=belowN s apex&&l.any (fun r=>belowN r.f0 s)
theorem l7There_eq (apex:ByteArray) (c:Int) (l:List aa_) (s:ByteArray) (hl:l.length≤1048576) (hs:∀r∈l,szR r) (hn:s.size≤1048576):Ev (fun k=>bz_.f k apex c l s) (l.any (fun r=>belowN r.f0 s)):=by
 unfold bz_.f
 refine a1_ l (fun k (_:Unit) i=>bz_.l0 k s l (l.length:Int) i) (fun _ t=>t.any (fun r=>belowN r.f0 s)) (fun _ _=>True) ?_ ?_ () trivial
 ·intro _ _
  apply Ev.succ
  simp only[bz_.l0]
  exact Ev.neg (by omega) (Ev.const (by simp))
 ·intro p x t _ e _ ih
  have hm:=a7_ e
  apply Ev.succ
  simp only[bz_.l0,a_,bP_ e]
  rw[w64 (i:=(p.length:Int)+1) (by omega) (by omega)]
  refine Ev.pos hm.1 (Ev.pos (by omega) (Ev.pos hm.1 (Ev.cbind _ (specBelow_eq x.f0 s (hs x (cF_ e)).1 hn) ?_)))
  cases hb:belowN x.f0 s with
  | true=>exact Ev.aK_ (Ev.const (by simp[hb]))
  | false=>exact Ev.aJ_ (Ev.eq_ (ih () trivial) (by simp[hb]))
section
variable (apex:ByteArray) (c:Int) (l:List aa_) (s:ByteArray) (ha:apex.size≤1048576) (hl:l.length≤1048576) (hs:∀r∈l,szR r) (hn:s.size≤1048576)
include ha hl hs hn
theorem isThere_eq:Ev (fun k=>cD_.f k apex c l s) (thereN apex l s):=by
 unfold cD_.f thereN
 refine Ev.cbind _ (implBelow_eq s apex hn ha) ?_
 cases belowN s apex with
 | false=>exact Ev.aJ_ (Ev.const (by simp))
 | true =>
  refine Ev.aK_ (Ev.bind' _ (aO_.any l s (fun r=>belowN r.f0 s) hl (fun x hx=>?_)) (Ev.const (by simp)))
  unfold impl_isThere_1.f
  exact Ev.cbind _ (implBelow_eq x.f0 s (hs x hx).1 hn) (Ev.const rfl)
end
end
section
def anyB (l:List aa_) (s:ByteArray):Bool:=l.any (fun r=>belowN r.f0 s)
def enclN (apex:ByteArray) (l:List aa_):Nat→ByteArray→ByteArray
 | 0,s=>s
 | n+1,s=>if bts s=bts apex then s else if anyB l s=true then s else enclN apex l n (parentN s)
def enclOf (apex:ByteArray) (l:List aa_) (s:ByteArray):ByteArray:=enclN apex l (s.size+1) s
theorem enclN_succ (apex:ByteArray) (l:List aa_) (n:Nat) (s:ByteArray):enclN apex l (n+1) s=if bts s=bts apex then s else if anyB l s=true then s else enclN apex l n (parentN s):=rfl
theorem zone_facts {apex:ByteArray} {c:Int} {l:List aa_} (h:zoneOk apex c l=true):nameOk apex=true∧l.length≤40∧rises l=true∧(∀r∈l,belowN r.f0 apex=true)∧l≠[]∧ruleN apex l=0∧soaN apex l=1:=by
 unfold zoneOk at h
 simp only[Bool.and_eq_true,decide_eq_true_eq] at h
 obtain⟨⟨⟨_,⟨⟨h1,h2⟩,h3⟩⟩,h4⟩,_⟩:=h
 have h5:l.any (fun r => !belowN r.f0 apex)=false∧soaN apex l=1:=by
  unfold ruleN at h4
  by_cases h1:l.any (fun r => !belowN r.f0 apex)=true
  ·rw[if_pos h1] at h4;omega
  ·rw[if_neg h1] at h4
   by_cases h2:soaN apex l=1
   ·exact⟨by simpa using h1,h2⟩
   ·rw[if_neg h2] at h4;omega
 refine⟨apexOk_name h1,h2,h3,fun r hr=>?_,fun h6=>?_,h4,h5.2⟩
 ·have:=List.any_eq_false.mp h5.1 r hr
  simpa using this
 ·rw[h6] at h5
  have:=h5.2
  simp[soaN] at this
theorem zone_root {apex:ByteArray} {c:Int} {l:List aa_} (h:zoneOk apex c l=true):anyB l apex=true:=by
 obtain⟨_,_,_,h1,h2,_⟩:=zone_facts h
 unfold anyB
 rw[List.any_eq_true]
 cases l with
 | nil=>exact absurd rfl h2
 | cons r t=>exact⟨r,List.mem_cons_self,h1 r List.mem_cons_self⟩
theorem encl_facts (apex:ByteArray) (l:List aa_):∀(n:Nat) (s:ByteArray),s.size<n→belowN s apex=true→(enclN apex l n s).size≤s.size∧belowN (enclN apex l n s) apex=true
 | 0,_,h,_=>by omega
 | n+1,s,h,hb=>by
  rw[enclN_succ]
  by_cases e:bts s=bts apex
  ·rw[if_pos e];exact⟨Nat.le_refl _,hb⟩
  ·rw[if_neg e]
   by_cases e2:anyB l s=true
   ·rw[if_pos e2];exact⟨Nat.le_refl _,hb⟩
   ·rw[if_neg e2]
    obtain⟨h1,h2⟩:=below_parent hb e
    have h3:=parent_lt h1
    have:=encl_facts apex l n (parentN s) (by omega) h2
    exact⟨by omega,this.2⟩
theorem enclOf_facts (apex:ByteArray) (l:List aa_) (s:ByteArray) (hb:belowN s apex=true):(enclOf apex l s).size≤s.size∧belowN (enclOf apex l s) apex=true:=encl_facts apex l (s.size+1) s (by omega) hb
theorem specEncl_loop (apex:ByteArray) (c:Int) (l:List aa_) (hl:l.length≤1048576) (hs:∀r∈l,szR r):∀(n:Nat) (s:ByteArray),s.size<n→s.size≤1048576→belowN s apex=true→Ev (fun k=>bv_.l0 k s apex c l) (enclN apex l n s)
 | 0,_,h,_,_=>by omega
 | n+1,s,h,hz,hb=>by
  rw[enclN_succ]
  apply Ev.succ
  simp only[bv_.l0,aT_]
  by_cases e:bts s=bts apex
  ·rw[if_pos e];exact Ev.pos e (Ev.const rfl)
  ·rw[if_neg e]
   refine Ev.neg e (Ev.bind' _ (l7There_eq apex c l s hl hs hz) ?_)
   have hq:l.any (fun r=>belowN r.f0 s)=anyB l s:=rfl
   rw[hq]
   cases hany:anyB l s with
   | true=>rw[if_pos rfl];exact Ev.aK_ (Ev.const rfl)
   | false =>
    rw[if_neg (by simp)]
    obtain⟨h1,h2⟩:=below_parent hb e
    have h3:=parent_lt h1
    exact Ev.aJ_ (Ev.bind' _ (specParent_eq s hz) (specEncl_loop apex c l hl hs n (parentN s) (by omega) (by omega) h2))
theorem specEncl_eq (apex:ByteArray) (c:Int) (l:List aa_) (hl:l.length≤1048576) (hs:∀r∈l,szR r) (s:ByteArray) (hz:s.size≤1048576) (hb:belowN s apex=true):Ev (fun k=>bv_.f k apex c l s) (enclOf apex l s):=by
 unfold bv_.f
 exact specEncl_loop apex c l hl hs (s.size+1) s (by omega) hz hb
section
variable (apex:ByteArray) (c:Int) (l:List aa_) (ha:apex.size≤1048576) (hl:l.length≤1048576) (hs:∀r∈l,szR r)
include ha hl hs
theorem implEncl_loop (hroot:anyB l apex=true):∀(n:Nat) (s:ByteArray),s.size<n→s.size≤1048576→belowN s apex=true→Ev (fun k=>bt_.l0 k s apex c l) (enclN apex l n s)
 | 0,_,h,_,_=>by omega
 | n+1,s,h,hz,hb=>by
  rw[enclN_succ]
  apply Ev.succ
  simp only[bt_.l0]
  refine Ev.bind' _ (isThere_eq apex c l s ha hl hs hz) ?_
  have hq:thereN apex l s=anyB l s:=by unfold thereN anyB;rw[hb,Bool.true_and]
  rw[hq]
  by_cases e:bts s=bts apex
  ·rw[if_pos e]
   have e2:s=apex:=cU_ e
   rw[e2,hroot]
   exact Ev.aK_ (Ev.const rfl)
  ·rw[if_neg e]
   cases hany:anyB l s with
   | true=>rw[if_pos rfl];exact Ev.aK_ (Ev.const rfl)
   | false =>
    rw[if_neg (by simp)]
    obtain⟨h1,h2⟩:=below_parent hb e
    have h3:=parent_lt h1
    exact Ev.aJ_ (Ev.cbind _ (implParent_eq s hz) (implEncl_loop hroot n (parentN s) (by omega) (by omega) h2))
theorem implEncl_eq (hroot:anyB l apex=true) (s:ByteArray) (hz:s.size≤1048576) (hb:belowN s apex=true):Ev (fun k=>bt_.f k apex c l s) (enclOf apex l s):=by
 unfold bt_.f
 exact implEncl_loop apex c l ha hl hs hroot (s.size+1) s (by omega) hz hb
end
end
end Go.Proofs.YtldinehdhmbkmaaGreatDoor.PL
end
