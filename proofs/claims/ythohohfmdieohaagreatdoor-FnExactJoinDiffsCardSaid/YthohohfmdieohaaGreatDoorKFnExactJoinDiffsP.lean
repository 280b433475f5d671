/- Texts that belong together,joined by claimit.py. -/
import Derived.Test.YthohohfmdieohaaGreatDoorKFnExactJoinDiffsW
import Derived.Test.YthohohfmdieohaaGreatDoorJFnExactJoinDiffs0
import Derived.Test.YthohohfmdieohaaGreatDoorJFnExactJoinDiffs1
import Derived.Test.YthohohfmdieohaaGreatDoorJFnExactJoinDiffs2
import Derived.Test.YthohohfmdieohaaGreatDoorJFnExactJoinDiffs3
import Derived.Test.YthohohfmdieohaaGreatDoorJFnExactJoinDiffs4
section
set_option linter.unusedVariables false
set_option linter.unusedSimpArgs false
namespace Go.Proofs.YthohohfmdieohaaGreatDoor.PL
open Go.RowKit Go.Proofs.YthohohfmdieohaaGreatDoor.Pp Go.Proofs.YthohohfmdieohaaGreatDoor.PB Go.Proofs.YthohohfmdieohaaGreatDoorW.PrintWords Go.Proofs.YthohohfmdieohaaGreatDoorW.PrintLast
def inR (a b c:Int):Bool:=decide (b≤a∧a≤c)
theorem l1In_eq (a b c:Int):bB_.f a b c=some (inR a b c):=by
 unfold bB_.f inR
 by_cases h:a≥b
 ·rw[if_pos h];simp[h]
 ·rw[if_neg h];simp;omega
theorem within_eq (a b c:Int):bv_.f a b c=some (inR a b c):=by
 unfold bv_.f inR
 by_cases h:a≥b
 ·rw[if_pos h];simp[h]
 ·rw[if_neg h];simp;omega
end Go.Proofs.YthohohfmdieohaaGreatDoor.PL
end
section
set_option linter.unusedVariables false
set_option linter.unusedSimpArgs false
namespace Go.Proofs.YthohohfmdieohaaGreatDoor.PL
open Go.RowKit Go.Proofs.YthohohfmdieohaaGreatDoor.Pp Go.Proofs.YthohohfmdieohaaGreatDoor.PB Go.Proofs.YthohohfmdieohaaGreatDoorW.PrintWords Go.Proofs.YthohohfmdieohaaGreatDoorW.PrintLast
theorem aq_.idx (l0:List ByteArray) (q:ByteArray→Bool) (hl:l0.length≤1048576) (h:∀x∈l0,Ev (fun k=>cj_.f x) (q x)):Ev (fun k=>aq_.f k l0 ) (idxP q l0):=by
 unfold aq_.f
 refine Ev.eq_ (bw_ l0 (fun k (_:Nat) i=>aq_.l0 k l0 (l0.length:Int) i) (fun n t=>if 0≤idxP q t then(n:Int)+idxP q t else -1) (fun p n=>n=p.length) ?_ ?_ 0 rfl) ?_
 ·intro n hn
  apply Ev.succ
  simp only[aq_.l0]
  exact Ev.neg (by omega) (Ev.const (by simp[idxP]))
 ·intro p x t n e hn ih
  have hm:=bE_ e
  have hx:=h x (mem_mid e)
  apply Ev.succ
  simp only[aq_.l0,rdOf_mid e]
  refine Ev.pos hm.1 (Ev.pos (by omega) (Ev.pos hm.1 (Ev.bind' _ hx ?_)))
  have hq:idxP q (x::t)=(if q x then 0 else if 0≤idxP q t then idxP q t+1 else -1):=rfl
  rw[hq]
  cases q x with
  | true=>exact Ev.a1_ (Ev.const (by simp[hn]))
  | false =>
   refine Ev.a3_ ?_
   rw[w64 (by omega) (by omega)]
   refine Ev.eq_ (ih (n+1) (by simp[hn])) ?_
   by_cases h2:0≤idxP q t
   ·simp[h2];omega
   ·simp[h2]
 ·by_cases h2:0≤idxP q l0
  ·simp[h2]
  ·rw[if_neg h2]
   exact(idxP_neg q l0 h2).symm
theorem aW_.any (l0:List ByteArray) (q:ByteArray→Bool) (hl:l0.length≤1048576) (h:∀x∈l0,Ev (fun k=>cj_.f x) (q x)):Ev (fun k=>aW_.f k l0 ) (l0.any q):=by
 unfold aW_.f
 refine Ev.bind' _ (aq_.idx l0  q hl h) (Ev.const ?_)
 rw[idxP_nonneg]
end Go.Proofs.YthohohfmdieohaaGreatDoor.PL
end
section
set_option linter.unusedVariables false
set_option linter.unusedSimpArgs false
namespace Go.Proofs.YthohohfmdieohaaGreatDoor.PL
open Go.RowKit Go.Proofs.YthohohfmdieohaaGreatDoor.Pp Go.Proofs.YthohohfmdieohaaGreatDoor.PB Go.Proofs.YthohohfmdieohaaGreatDoorW.PrintWords Go.Proofs.YthohohfmdieohaaGreatDoorW.PrintLast
def okB (b:UInt8):Bool:=(decide (97≤(b.toNat:Int))&&decide ((b.toNat:Int)≤122))||(decide (48≤(b.toNat:Int))&&decide ((b.toNat:Int)≤57))||decide ((b.toNat:Int)=45)||decide ((b.toNat:Int)=95)
def labelOk (s:ByteArray):Bool:=decide (bts s=[42])||((bts s).all okB&&inR (bts s).length 1 20)
def labels (s:ByteArray):List ByteArray:=if bts s=[] then [] else splitC 46 [] (bts s)
def nameOk (s:ByteArray):Bool:=decide ((bts s).length≤60)&&decide ((labels s).length≤8)&&(labels s).all labelOk
theorem specSplit_eq (s:ByteArray) (hs:s.size≤1048576):Ev (fun k=>ba_.f k s 46) (splitC 46 [] (bts s)):=by
 unfold ba_.f
 have hz:=bt_ s
 refine Ev.eq_ (bw_ (bts s) (fun k (st:List ByteArray × Nat × List UInt8) i=>ba_.l0 k s 46 st.1 st.2.1 i) (fun st t=>st.1++splitC 46 st.2.2 t) (fun p st=>st.2.1≤p.length∧st.2.2=p.drop st.2.1∧st.1.length≤p.length) ?_ ?_ ([],0,[]) ⟨Nat.zero_le _,rfl,Nat.zero_le _⟩) (by simp)
 ·rintro⟨acc,fr,cur⟩ ⟨h1,h2,h3⟩
  apply Ev.succ
  simp only[ba_.l0]
  simp only at h1 h2 h3
  refine Ev.neg (by omega) (Ev.pos (by omega) (Ev.pos (by omega) (Ev.pos (by omega) (Ev.const ?_))))
  simp only[splitC]
  rw[extract_bts,h2]
  congr 4
  rw[List.take_of_length_le]
  ·simp
  ·simp[hz]
 ·rintro p b t ⟨acc,fr,cur⟩ e ⟨h1,h2,h3⟩ ih
  have hm:=bE_ e
  simp only at h1 h2 h3
  apply Ev.succ
  simp only[ba_.l0]
  refine Ev.pos (by omega) (Ev.pos (by omega) ?_)
  rw[bt_mid e,w64 (i:=(p.length:Int)+1) (by omega) (by omega)]
  by_cases hb:b=46
  ·subst hb
   refine Ev.pos (by decide) (Ev.pos (by omega) (Ev.pos (by omega) (Ev.pos (by omega) (Ev.pos (by omega) ?_))))
   have hx:s.extract ((fr:Nat):Int).toNat ((p.length:Nat):Int).toNat=⟨cur.toArray⟩:=by
    rw[extract_bts,h2]
    congr 2
    rw[e]
    simp only[Int.toNat_natCast]
    rw[List.drop_append_of_le_length h1,List.take_append_of_le_length (by simp),List.take_of_length_le (by simp)]
   rw[hx]
   have hc:((p.length:Int)+1)=(((p.length+1:Nat)):Int):=by omega
   refine Ev.eq_ (ih (acc++[⟨cur.toArray⟩],p.length+1,[]) ⟨by simp,by simp,by simp;omega⟩) ?_
   simp[splitC]
  ·have:¬((b.toNat:Int)=46):=by
    intro h
    apply hb
    apply UInt8.toNat_inj.mp
    have h46:(46:UInt8).toNat=46:=rfl
    omega
   refine Ev.neg this ?_
   refine Ev.eq_ (ih (acc,fr,cur++[b]) ⟨by simp;omega,?_,by simp;omega⟩) ?_
   ·simp only
    rw[h2,List.drop_append_of_le_length h1]
   ·simp[splitC,hb]
theorem genSplit_loop (n:Nat) (hn:n≤1048576):∀(m:Nat) (s:ByteArray) (A B:List ByteArray),s.size≤1048576→Go.Lib.countByte (bts s) 46=m→A.length+m=n→A.length+B.length=n+1 →
  Ev (fun k=>aN_.l0 k s (⟨#[46]⟩:ByteArray) 0 (n:Int) (A++B) (A.length:Int)) (A++splitC 46 [] (bts s))
 | 0,s,A,B,hs,hc,hA,hB=>by
  obtain⟨hnone,_⟩:=index_none _ _ hc
  apply Ev.succ
  simp only[aN_.l0]
  have hl:(A++B).length=n+1:=by simp;omega
  refine Ev.neg (by omega) (Ev.pos (by omega) (Ev.pos (by rw[hl];omega) ?_))
  rw[w64 (i:=(A.length:Int)+1) (by omega) (by omega)]
  refine Ev.pos (by omega) (Ev.pos (by rw[hl];omega) (Ev.const ?_))
  rw[splitC_none _ _ _ hnone]
  obtain⟨b,B',rfl⟩:∃b B',B=b::B':=by
   cases B with
   | nil=>simp at hB;omega
   | cons b B'=>exact⟨b,B',rfl⟩
  rw[set_mid]
  have:(((A.length:Int)+1)).toNat=(A++[s]).length:=by simp<;>omega
  rw[this,List.take_left']
  ·simp[mk_bts]
  ·rfl
 | m+1,s,A,B,hs,hc,hA,hB=>by
  obtain⟨pre,post,e,hm,hi,hc2⟩:=index_some (bts s) 46 (by omega)
  have hz:=bt_ s
  have hlen:(bts s).length=pre.length+(post.length+1):=by rw[e];simp
  apply Ev.succ
  simp only[aN_.l0]
  have hl:(A++B).length=n+1:=by simp;omega
  refine Ev.pos (by omega) (Ev.cbind (pre.length:Int) ?_ ?_)
  ·unfold b1_.f
   rw[if_pos (by rfl)]
   exact congrArg some hi
  ·refine Ev.neg (by omega) ?_
   have hsz1:((⟨#[46]⟩:ByteArray).size:Int)=1:=rfl
   rw[hsz1,Int.add_zero,w64 (i:=(pre.length:Int)) (by omega) (by omega),w64 (i:=(pre.length:Int)+1) (by omega) (by omega),w64 (i:=(A.length:Int)+1) (by omega) (by omega)]
   refine Ev.pos (by omega) (Ev.pos (by omega) (Ev.pos (by omega) (Ev.pos (by rw[hl];omega) (Ev.pos (by omega) (Ev.pos (by omega) ?_)))))
   obtain⟨b,B',rfl⟩:∃b B',B=b::B':=by
    cases B with
    | nil=>simp at hB;omega
    | cons b B'=>exact⟨b,B',rfl⟩
   rw[set_mid]
   have hx1:s.extract 0 ((pre.length:Int)).toNat=⟨pre.toArray⟩:=by
    rw[extract_bts]
    congr 2
    rw[e]
    simp
   have hx2:s.extract (((pre.length:Int)+1)).toNat s.size=⟨post.toArray⟩:=by
    rw[extract_bts]
    congr 2
    have e':bts s=(pre++[46])++post:=by simpa using e
    have h1:(((pre.length:Int)+1)).toNat=(pre++[46]).length:=by simp<;>omega
    rw[e',h1,List.drop_left,List.take_of_length_le]
    simp at hlen ⊢
    omega
   rw[hx1,hx2]
   have hb1:bts (⟨post.toArray⟩:ByteArray)=post:=b9_ post
   have hb2:(⟨post.toArray⟩:ByteArray).size=post.length:=by rw[bt_,hb1]
   have:=genSplit_loop n hn m ⟨post.toArray⟩ (A++[⟨pre.toArray⟩]) B' (by omega) (by rw[hb1];omega) (by simp;omega) (by simp at hB ⊢;omega)
   have hcast:(((A++[(⟨pre.toArray⟩:ByteArray)]).length:Nat):Int)=(A.length:Int)+1:=by simp
   rw[hcast] at this
   refine Ev.eq_ this ?_
   rw[hb1,e,splitC_pre _ _ _ _ hm]
   simp
theorem strSplit_eq (s:ByteArray) (hs:s.size≤1048576):Ev (fun k=>b2_.f k s (⟨#[46]⟩:ByteArray)) (splitC 46 [] (bts s)):=by
 unfold b2_.f aN_.f
 have hz:=bt_ s
 have hcl:=count_le (bts s) 46
 refine Ev.bind' _ (Ev.neg (by omega) (Ev.neg (by rw[ca_];decide) (Ev.pos (by omega) (Ev.cbind (Go.Lib.countByte (bts s) 46:Int) (by unfold strings_Count.f;rw[if_pos (by rfl)];rfl) ?_)))) (Ev.const rfl)
 apply Ev.succ
 simp only[aN_.j0]
 rw[w64 (i:=((Go.Lib.countByte (bts s) 46:Nat):Int)+1) (by omega) (by omega),w64 (i:=(s.size:Int)+1) (by omega) (by omega)]
 have hmn:mn (((Go.Lib.countByte (bts s) 46:Nat):Int)+1) ((s.size:Int)+1)=((Go.Lib.countByte (bts s) 46+1:Nat):Int):=by
  unfold mn
  split<;>omega
 rw[hmn]
 rw[w64 (i:=((Go.Lib.countByte (bts s) 46+1:Nat):Int) - 1) (by omega) (by omega)]
 refine Ev.pos (by omega) (Ev.pos (by omega) ?_)
 have h1:(((Go.Lib.countByte (bts s) 46+1:Nat):Int) - 1)=((Go.Lib.countByte (bts s) 46:Nat):Int):=by omega
 rw[h1]
 have:=genSplit_loop (Go.Lib.countByte (bts s) 46) (by omega) _ s [] (List.replicate ((Go.Lib.countByte (bts s) 46+1:Nat):Int).toNat (⟨#[]⟩:ByteArray)) hs rfl (by simp) (by simp)
 simpa using this
theorem okB_in (b:UInt8):([97,98,99,100,101,102,103,104,105,106,107,108,109,110,111,112,113,114,115,116,117,118,119,120,121,122,48,49,50,51,52,53,54,55,56,57,45,95]:List UInt8).contains b=okB b :=
 all8 (fun b=>([97,98,99,100,101,102,103,104,105,106,107,108,109,110,111,112,113,114,115,116,117,118,119,120,121,122,48,49,50,51,52,53,54,55,56,57,45,95]:List UInt8).contains b) okB (by decide +kernel) b
theorem isLabel_eq (s:ByteArray) (hs:s.size≤1048576):impl_isLabel.f s=some (labelOk s):=by
 have hz:=bt_ s
 unfold impl_isLabel.f labelOk
 rw[ca_]
 by_cases h:bts s=[42]
 ·rw[if_pos h];simp[h]
 ·rw[if_neg h,within_eq]
  simp only[Option.bind_some,h,decide_false,Bool.false_or]
  rw[hz]
  cases hr:inR ((bts s).length:Int) 1 20 with
  | false=>simp
  | true =>
   simp only[if_true,Bool.and_true]
   unfold strings_Trim.f
   rw[if_pos ⟨by omega,by decide,by decide +kernel⟩]
   simp only[Option.bind_some]
   congr 1
   rw[ca_,b9_,trimS_nil]
   congr 1
   funext b
   exact okB_in b
theorem specLabel_eq (s:ByteArray) (hs:s.size≤1048576):Ev (fun k=>bd_.f k s) (labelOk s):=by
 have hz:=bt_ s
 unfold bd_.f labelOk
 rw[ca_]
 by_cases h:bts s=[42]
 ·exact Ev.pos h (Ev.const (by simp[h]))
 ·refine Ev.neg h ?_
  refine Ev.eq_ (bw_ (bts s) (fun k (_:Unit) i=>bd_.l0 k s i) (fun _ t=>t.all okB&&inR (bts s).length 1 20) (fun _ _=>True) ?_ ?_ () trivial) (by simp[h])
  ·intro _ _
   apply Ev.succ
   simp only[bd_.l0]
   refine Ev.neg (by omega) (Ev.cbind _ (l1In_eq _ _ _) (Ev.const (by simp[hz])))
  ·intro p b t _ e _ ih
   have hm:=bE_ e
   apply Ev.succ
   simp only[bd_.l0]
   refine Ev.pos (by omega) (Ev.pos (by omega) ?_)
   rw[bt_mid e,w64 (i:=(p.length:Int)+1) (by omega) (by omega)]
   have hgo:=ih () trivial
   have hb:=b.toNat_lt
   have key:∀(g:Nat→Option Bool),(okB b=true→Ev g (t.all okB&&inR (bts s).length 1 20))→(okB b=false→Ev g false)→Ev g ((b::t).all okB&&inR (bts s).length 1 20):=by
    intro g h1 h2
    cases ho:okB b with
    | true=>simpa[ho] using h1 ho
    | false=>simpa[ho] using h2 ho
   refine key _ (fun ho=>?_) (fun ho=>?_)
   ·simp only[okB,Bool.or_eq_true,Bool.and_eq_true,decide_eq_true_eq] at ho
    by_cases c1:(b.toNat:Int)≥97
    ·refine Ev.pos c1 ?_
     by_cases c2:(b.toNat:Int)≤122
     ·exact Ev.pos c2 hgo
     ·refine Ev.neg c2 (Ev.pos (by omega) (Ev.neg (by omega) (Ev.neg (by omega) (Ev.neg (by omega) ?_))))
      omega
    ·refine Ev.neg c1 ?_
     by_cases c3:(b.toNat:Int)≥48
     ·refine Ev.pos c3 ?_
      by_cases c4:(b.toNat:Int)≤57
      ·exact Ev.pos c4 hgo
      ·refine Ev.neg c4 ?_
       by_cases c5:(b.toNat:Int)=45
       ·exact Ev.pos c5 hgo
       ·exact Ev.neg c5 (Ev.pos (by omega) hgo)
     ·refine Ev.neg c3 ?_
      by_cases c5:(b.toNat:Int)=45
      ·exact Ev.pos c5 hgo
      ·exact Ev.neg c5 (Ev.pos (by omega) hgo)
   ·simp only[okB,Bool.or_eq_false_iff,Bool.and_eq_false_iff,decide_eq_false_iff_not] at ho
    by_cases c1:(b.toNat:Int)≥97
    ·exact Ev.pos c1 (Ev.neg (by omega) (Ev.pos (by omega) (Ev.neg (by omega) (Ev.neg (by omega) (Ev.neg (by omega) (Ev.const rfl))))))
    ·refine Ev.neg c1 ?_
     by_cases c3:(b.toNat:Int)≥48
     ·exact Ev.pos c3 (Ev.neg (by omega) (Ev.neg (by omega) (Ev.neg (by omega) (Ev.const rfl))))
     ·exact Ev.neg c3 (Ev.neg (by omega) (Ev.neg (by omega) (Ev.const rfl)))
theorem splitC_sizes (c:UInt8):∀(l cur:List UInt8),∀x∈splitC c cur l,x.size≤cur.length+l.length
 | [],cur,x,h=>by
  simp only[splitC,List.mem_singleton] at h
  subst h
  rw[bt_,b9_]
  simp
 | b::l,cur,x,h=>by
  unfold splitC at h
  split at h
  ·rcases List.mem_cons.mp h with rfl|h2
   ·rw[bt_,b9_];simp
   ·have:=splitC_sizes c l [] x h2
    simp at this ⊢
    omega
  ·have:=splitC_sizes c l (cur++[b]) x h
   simp at this ⊢
   omega
theorem specLabels_eq (s:ByteArray) (hs:s.size≤1048576):Ev (fun k=>a8_.f k s) (if (labels s).all labelOk=true then(labels s,decide ((bts s).length≤60)&&decide ((labels s).length≤8)) else([],false)):=by
 have hz:=bt_ s
 unfold a8_.f
 rw[ca_]
 by_cases h:bts s=[]
 ·refine Ev.pos h (Ev.const ?_)
  have:labels s=[]:=by unfold labels;rw[if_pos h]
  simp[this,h]
 ·have hlab:labels s=splitC 46 [] (bts s):=by unfold labels;rw[if_neg h]
  rw[hlab]
  refine Ev.neg h (Ev.bind' _ (specSplit_eq s hs) ?_)
  have hlen:=splitC_len 46 (bts s) []
  have hsz:=splitC_sizes 46 (bts s) []
  generalize splitC 46 [] (bts s)=L at hlen hsz
  refine Ev.eq_ (bw_ L (fun k (_:Unit) i=>a8_.l0 k s L L (L.length:Int) i) (fun _ t=>if t.all labelOk=true then(L,decide ((bts s).length≤60)&&decide (L.length≤8)) else([],false)) (fun _ _=>True) ?_ ?_ () trivial) rfl
  ·intro _ _
   apply Ev.succ
   simp only[a8_.l0]
   refine Ev.neg (by omega) ?_
   by_cases h60:(s.size:Int)≤60
   ·refine Ev.pos h60 (Ev.const ?_)
    have:(bts s).length≤60:=by omega
    simp[this]
    omega
   ·refine Ev.neg h60 (Ev.const ?_)
    have:¬(bts s).length≤60:=by omega
    simp[this]
  ·intro p x t _ e _ ih
   have hm:=bE_ e
   have hx:x.size≤1048576:=by have:=hsz x (mem_mid e);simp at this;omega
   apply Ev.succ
   simp only[a8_.l0,rdOf_mid e]
   refine Ev.pos hm.1 (Ev.pos (by omega) (Ev.pos hm.1 (Ev.bind' _ (specLabel_eq x hx) ?_)))
   cases hl:labelOk x with
   | false=>exact Ev.a3_ (Ev.const (by simp[hl]))
   | true =>
    refine Ev.a1_ ?_
    rw[w64 (i:=(p.length:Int)+1) (by omega) (by omega)]
    refine Ev.eq_ (ih () trivial) ?_
    simp[hl]
theorem specGoodName_eq (s:ByteArray) (hs:s.size≤1048576):Ev (fun k=>spec_GoodName.f k s) (nameOk s):=by
 unfold spec_GoodName.f nameOk
 refine Ev.bind' _ (specLabels_eq s hs) (Ev.const ?_)
 cases(labels s).all labelOk<;>simp
theorem labelsOf_eq (s:ByteArray) (hs:s.size≤1048576):Ev (fun k=>bF_.f k s) (labels s):=by
 unfold bF_.f labels
 rw[ca_]
 by_cases h:bts s=[]
 ·exact Ev.pos h (Ev.const (by rw[if_pos h]))
 ·rw[if_neg h]
  exact Ev.neg h (Ev.bind' _ (strSplit_eq s hs) (Ev.const rfl))
theorem labels_len (s:ByteArray):(labels s).length≤s.size+1:=by
 have hz:=bt_ s
 unfold labels
 split
 ·simp
 ·have:=splitC_len 46 (bts s) [];omega
theorem labels_sizes (s:ByteArray):∀x∈labels s,x.size≤s.size:=by
 have hz:=bt_ s
 unfold labels
 split
 ·simp
 ·intro x hx
  have:=splitC_sizes 46 (bts s) [] x hx
  simp at this
  omega
theorem implGoodName_eq (s:ByteArray) (hs:s.size≤1048576):Ev (fun k=>bL_.f k s) (nameOk s):=by
 have hz:=bt_ s
 have hll:=labels_len s
 have hls:=labels_sizes s
 unfold bL_.f nameOk
 by_cases h:(s.size:Int) > 60
 ·refine Ev.pos h (Ev.const ?_)
  have:¬(bts s).length≤60:=by omega
  simp[this]
 ·refine Ev.neg h (Ev.bind' _ (labelsOf_eq s hs) ?_)
  have h60:(bts s).length≤60:=by omega
  by_cases h8:((labels s).length:Int)≤8
  ·refine Ev.pos h8 (Ev.bind' _ (aW_.any (labels s) (fun x => !labelOk x) (by omega) ?_) (Ev.const ?_))
   ·intro x hx
    unfold cj_.f
    exact Ev.cbind _ (isLabel_eq x (by have:=hls x hx;omega)) (Ev.const rfl)
   ·have h8':(labels s).length≤8:=by omega
    rw[any_not]
    simp[h60,h8']
  ·refine Ev.neg h8 (Ev.const ?_)
   have h8':¬(labels s).length≤8:=by omega
   simp[h8']
end Go.Proofs.YthohohfmdieohaaGreatDoor.PL
end
section
set_option linter.unusedVariables false
set_option linter.unusedSimpArgs false
namespace Go.Proofs.YthohohfmdieohaaGreatDoor.PL
open Go.RowKit Go.Proofs.YthohohfmdieohaaGreatDoor.Pp Go.Proofs.YthohohfmdieohaaGreatDoor.PB Go.Proofs.YthohohfmdieohaaGreatDoorW.PrintWords Go.Proofs.YthohohfmdieohaaGreatDoorW.PrintLast
theorem numberIn_eq (s:ByteArray) (hs:s.size≤1048576) (most:Int) (hm:most≤9999999999):∃v,bK_.f s most=some (v,numOk (bts s) most)∧(numOk (bts s) most=true→v=numOf (bts s)):=by
 unfold bK_.f
 rw[if_pos (by omega)]
 have h:=number_in (bts s) most hm
 have e:bts s=s.data.toList:=rfl
 rw[e] at h ⊢
 cases hA:Go.Lib.atoiAll s.data.toList with
 | ok v =>
  rw[hA] at h
  simp only at h ⊢
  exact⟨v,by rw[h.1],h.2⟩
 | range =>
  rw[hA] at h
  simp only at h ⊢
  exact⟨_,by rw[h],fun h2=>by rw[h] at h2;cases h2⟩
 | _ =>
  rw[hA] at h
  simp only at h ⊢
  exact⟨0,by rw[h],fun h2=>by rw[h] at h2;cases h2⟩
theorem l1Int_eq (s:ByteArray) (hs:s.size≤1048576):Ev (fun k=>a4_.f k s) (numOf (bts s)):=by
 have hz:=bt_ s
 unfold a4_.f
 refine Ev.cbind _ (l1In_eq _ _ _) ?_
 have hend:∀b,b=true→numOf (bts s) = -1→Ev (fun k=>a4_.j0 k s b) (numOf (bts s)):=by
  intro b hb hn
  subst hb
  apply Ev.succ
  simp only[a4_.j0]
  exact Ev.pos (by first|rfl|trivial) (Ev.const (by rw[hn]))
 cases hr:inR (s.size:Int) 1 10 with
 | false =>
  refine Ev.a3_ (hend true rfl ?_)
  unfold inR at hr
  simp only[Bool.and_eq_false_iff,decide_eq_false_iff_not] at hr
  unfold numOf
  rw[if_neg]
  rintro⟨h1,h2⟩
  have:bts s≠[]:=by
   intro e
   rw[e] at h1
   simp[isNumeral] at h1
  have h3:0<(bts s).length:=List.length_pos_iff.mpr this
  omega
 | true =>
  refine Ev.a1_ ?_
  unfold inR at hr
  simp only[Bool.and_eq_true,decide_eq_true_eq] at hr
  refine Ev.pos (by omega) ?_
  obtain⟨b,t,e⟩:∃b t,bts s=b::t:=by
   cases h:bts s with
   | nil =>
    have h0:(bts s).length=0:=by rw[h];rfl
    omega
   | cons b t=>exact⟨b,t,rfl⟩
  have hb0:bt s 0=(b.toNat:Int):=bt_mid (p:=[]) e
  have loop:(bts s).length≤10→Ev (fun k=>a4_.l0 k s 0 0) (if (bts s).all isDg=true then(valF 0 (bts s):Int) else -1):=by
   intro h10
   refine Ev.eq_ (bw_ (bts s) (fun k (st:Nat) i=>a4_.l0 k s (st:Int) i) (fun st u=>if u.all isDg=true then(valF st u:Int) else -1) (fun p st=>st<10 ^ p.length) ?_ ?_ 0 (by simp)) rfl
   ·intro st hst
    apply Ev.succ
    simp only[a4_.l0]
    exact Ev.neg (by omega) (Ev.const (by simp[valF_nil]))
   ·intro p c u st e2 hst ih
    have hm:=bE_ e2
    have hp:10 ^ p.length≤10 ^ 9:=Nat.pow_le_pow_right (by decide) (by omega)
    apply Ev.succ
    simp only[a4_.l0]
    refine Ev.pos (by omega) (Ev.pos (by omega) ?_)
    rw[bt_mid e2,w64 (i:=(p.length:Int)+1) (by omega) (by omega),w64 (i:=10 * (st:Int)) (by omega) (by omega)]
    by_cases h1:c.toNat<48
    ·refine Ev.pos (by omega) (Ev.const ?_)
     have:isDg c=false:=by unfold isDg;simp;omega
     simp[this]
    ·refine Ev.neg (by omega) ?_
     by_cases h2:c.toNat > 57
     ·refine Ev.pos (by omega) (Ev.const ?_)
      have:isDg c=false:=by unfold isDg;simp;omega
      simp[this]
     ·refine Ev.neg (by omega) ?_
      have hd:isDg c=true:=by unfold isDg;simp;omega
      have e3:wrap64 (10 * (st:Int)+((c.toNat:Int) - 48) % 256)=((10 * st+(c.toNat - 48):Nat):Int):=by
       rw[w64 (by omega) (by omega)]
       omega
      rw[e3]
      refine Ev.eq_ (ih (10 * st+(c.toNat - 48)) ?_) ?_
      ·simp only[List.length_append,List.length_cons,List.length_nil,Nat.pow_succ]
       omega
      ·simp[hd,cc_]
  have h10:(bts s).length≤10:=by omega
  rw[hb0]
  by_cases h48:(b.toNat:Int)=48
  ·refine Ev.pos h48 ?_
   have hb:b=48:=by
    apply UInt8.toNat_inj.mp
    have h2:(48:UInt8).toNat=48:=rfl
    omega
   by_cases ht:t=[]
   ·have h1:(s.size:Int)=1:=by rw[hz,e,ht];rfl
    have hd:decide ((s.size:Int) > 1)=false:=by simp;omega
    rw[hd]
    apply Ev.succ
    simp only[a4_.j0]
    refine Ev.a3_ (Ev.eq_ (loop h10) ?_)
    rw[e,ht,hb]
    decide
   ·have hl:2≤(bts s).length:=by
     rw[e]
     have:=List.length_pos_iff.mpr ht
     simp only[List.length_cons]
     omega
    have hd:decide ((s.size:Int) > 1)=true:=by simp;omega
    rw[hd]
    refine hend true rfl ?_
    unfold numOf
    rw[if_neg]
    rintro⟨h1,h2⟩
    rw[e] at h1 hl
    simp only[List.length_cons] at hl
    simp[isNumeral,hb] at h1
    have:=h1.2
    subst this
    simp at hl
  ·refine Ev.neg h48 ?_
   apply Ev.succ
   simp only[a4_.j0]
   refine Ev.a3_ (Ev.eq_ (loop h10) ?_)
   have hne:b≠48:=fun h=>h48 (by rw[h];rfl)
   unfold numOf isNumeral
   rw[e]
   have hl:(b::t).length≤10:=by rw[←e];exact h10
   cases ha:(b::t).all isDg<;>simp[ha,hne,hl]<;>simp_all
def byt1 (n:Int):ByteArray:=strOfNums [n % 256]
def byt2 (n:Int):ByteArray:=strOfNums [n / 256 % 256,n % 256]
def byt4 (n:Int):ByteArray:=strOfNums [n / 16777216 % 256,n / 65536 % 256,n / 256 % 256,n % 256]
theorem number1_eq (n:Int):Ev (fun k=>aJ_.f k n 1) (byt1 n):=by
 unfold aJ_.f
 refine Ev.pos (by omega) (Ev.pos (by decide) ?_)
 rw[w64 (by omega) (by omega)]
 show Ev (fun k=>aJ_.l0 k n [0] 0) _
 apply Ev.succ
 simp only[aJ_.l0]
 refine Ev.pos (by omega) (Ev.pos (by omega) (Ev.pos (by decide) ?_))
 rw[w64 (by omega) (by omega)]
 apply Ev.succ
 simp only[aJ_.l0]
 exact Ev.neg (by omega) (Ev.const rfl)
theorem number2_eq (n:Int):Ev (fun k=>aJ_.f k n 2) (byt2 n):=by
 unfold aJ_.f
 refine Ev.pos (by omega) (Ev.pos (by decide) ?_)
 rw[w64 (by omega) (by omega)]
 show Ev (fun k=>aJ_.l0 k n [0,0] 1) _
 apply Ev.succ
 simp only[aJ_.l0]
 refine Ev.pos (by omega) (Ev.pos (by omega) (Ev.pos (by decide) ?_))
 rw[w64 (by omega) (by omega)]
 show Ev (fun k=>aJ_.l0 k (n / 256) [0,n % 256] 0) _
 apply Ev.succ
 simp only[aJ_.l0]
 refine Ev.pos (by omega) (Ev.pos (by omega) (Ev.pos (by simp) ?_))
 rw[w64 (by omega) (by omega)]
 apply Ev.succ
 simp only[aJ_.l0]
 exact Ev.neg (by omega) (Ev.const rfl)
theorem number4_eq (n:Int):Ev (fun k=>aJ_.f k n 4) (byt4 n):=by
 unfold aJ_.f
 refine Ev.pos (by omega) (Ev.pos (by decide) ?_)
 rw[w64 (by omega) (by omega)]
 show Ev (fun k=>aJ_.l0 k n [0,0,0,0] 3) _
 apply Ev.succ
 simp only[aJ_.l0]
 refine Ev.pos (by omega) (Ev.pos (by omega) (Ev.pos (by decide) ?_))
 rw[w64 (by omega) (by omega)]
 show Ev (fun k=>aJ_.l0 k (n / 256) [0,0,0,n % 256] 2) _
 apply Ev.succ
 simp only[aJ_.l0]
 refine Ev.pos (by omega) (Ev.pos (by omega) (Ev.pos (by simp) ?_))
 rw[w64 (by omega) (by omega)]
 show Ev (fun k=>aJ_.l0 k (n / 256 / 256) [0,0,n / 256 % 256,n % 256] 1) _
 apply Ev.succ
 simp only[aJ_.l0]
 refine Ev.pos (by omega) (Ev.pos (by omega) (Ev.pos (by simp) ?_))
 rw[w64 (by omega) (by omega)]
 show Ev (fun k=>aJ_.l0 k (n / 256 / 256 / 256) [0,n / 256 / 256 % 256,n / 256 % 256,n % 256] 0) _
 apply Ev.succ
 simp only[aJ_.l0]
 refine Ev.pos (by omega) (Ev.pos (by omega) (Ev.pos (by simp) ?_))
 rw[w64 (by omega) (by omega)]
 apply Ev.succ
 simp only[aJ_.l0]
 refine Ev.neg (by omega) (Ev.const ?_)
 show some (strOfNums [n / 256 / 256 / 256 % 256,n / 256 / 256 % 256,n / 256 % 256,n % 256])=some (byt4 n)
 unfold byt4
 rw[show n / 16777216=n / 256 / 256 / 256 by omega,show n / 65536=n / 256 / 256 by omega]
theorem shr_at (x:Int) (y:Int) (n:Nat) (hn:y=(n:Int)) (h:n≤64):shr .i64 x y=x / 2 ^ n:=by
 unfold shr
 subst hn
 rw[show min ((n:Int)).toNat IntKind.i64.bits=n from by simp only[Int.toNat_natCast];exact Nat.min_eq_left h]
theorem big1_eq (n:Int):Ev (fun k=>b_.f k n 1) (byt1 n):=by
 unfold b_.f
 rw[w64 (by omega) (by omega)]
 show Ev (fun k=>b_.l0 k n [] 0) _
 apply Ev.succ
 simp only[b_.l0]
 rw[w64 (by omega) (by omega),w64 (by omega) (by omega),shr_at n (8 * 0) 0 rfl (by omega)]
 refine Ev.pos (by omega) (Ev.pos (by omega) (Ev.pos (by decide) ?_))
 apply Ev.succ
 simp only[b_.l0]
 refine Ev.neg (by omega) (Ev.const ?_)
 simp[byt1]
theorem big2_eq (n:Int):Ev (fun k=>b_.f k n 2) (byt2 n):=by
 unfold b_.f
 rw[w64 (by omega) (by omega)]
 show Ev (fun k=>b_.l0 k n [] 1) _
 apply Ev.succ
 simp only[b_.l0]
 rw[w64 (by omega) (by omega),w64 (by omega) (by omega),shr_at n (8 * 1) 8 rfl (by omega)]
 refine Ev.pos (by omega) (Ev.pos (by omega) (Ev.pos (by decide) ?_))
 show Ev (fun k=>b_.l0 k n [n / 2 ^ 8 % 256] 0) _
 apply Ev.succ
 simp only[b_.l0]
 rw[w64 (by omega) (by omega),w64 (by omega) (by omega),shr_at n (8 * 0) 0 rfl (by omega)]
 refine Ev.pos (by omega) (Ev.pos (by omega) (Ev.pos (by simp) ?_))
 apply Ev.succ
 simp only[b_.l0]
 refine Ev.neg (by omega) (Ev.const ?_)
 simp[byt2]
theorem big4_eq (n:Int):Ev (fun k=>b_.f k n 4) (byt4 n):=by
 unfold b_.f
 rw[w64 (by omega) (by omega)]
 show Ev (fun k=>b_.l0 k n [] 3) _
 apply Ev.succ
 simp only[b_.l0]
 rw[w64 (by omega) (by omega),w64 (by omega) (by omega),shr_at n (8 * 3) 24 rfl (by omega)]
 refine Ev.pos (by omega) (Ev.pos (by omega) (Ev.pos (by decide) ?_))
 show Ev (fun k=>b_.l0 k n [n / 2 ^ 24 % 256] 2) _
 apply Ev.succ
 simp only[b_.l0]
 rw[w64 (by omega) (by omega),w64 (by omega) (by omega),shr_at n (8 * 2) 16 rfl (by omega)]
 refine Ev.pos (by omega) (Ev.pos (by omega) (Ev.pos (by simp) ?_))
 show Ev (fun k=>b_.l0 k n [n / 2 ^ 24 % 256,n / 2 ^ 16 % 256] 1) _
 apply Ev.succ
 simp only[b_.l0]
 rw[w64 (by omega) (by omega),w64 (by omega) (by omega),shr_at n (8 * 1) 8 rfl (by omega)]
 refine Ev.pos (by omega) (Ev.pos (by omega) (Ev.pos (by simp) ?_))
 show Ev (fun k=>b_.l0 k n [n / 2 ^ 24 % 256,n / 2 ^ 16 % 256,n / 2 ^ 8 % 256] 0) _
 apply Ev.succ
 simp only[b_.l0]
 rw[w64 (by omega) (by omega),w64 (by omega) (by omega),shr_at n (8 * 0) 0 rfl (by omega)]
 refine Ev.pos (by omega) (Ev.pos (by omega) (Ev.pos (by simp) ?_))
 apply Ev.succ
 simp only[b_.l0]
 refine Ev.neg (by omega) (Ev.const ?_)
 simp[byt4]
end Go.Proofs.YthohohfmdieohaaGreatDoor.PL
end
section
set_option linter.unusedVariables false
set_option linter.unusedSimpArgs false
namespace Go.Proofs.YthohohfmdieohaaGreatDoor.PL
open Go.RowKit Go.Proofs.YthohohfmdieohaaGreatDoor.Pp Go.Proofs.YthohohfmdieohaaGreatDoor.PB Go.Proofs.YthohohfmdieohaaGreatDoorW.PrintWords Go.Proofs.YthohohfmdieohaaGreatDoorW.PrintLast
theorem au_.idx (l0:List Int) (q:Int→Bool) (hl:l0.length≤1048576) (h:∀x∈l0,Ev (fun k=>cf_.f x) (q x)):Ev (fun k=>au_.f k l0 ) (idxP q l0):=by
 unfold au_.f
 refine Ev.eq_ (bw_ l0 (fun k (_:Nat) i=>au_.l0 k l0 (l0.length:Int) i) (fun n t=>if 0≤idxP q t then(n:Int)+idxP q t else -1) (fun p n=>n=p.length) ?_ ?_ 0 rfl) ?_
 ·intro n hn
  apply Ev.succ
  simp only[au_.l0]
  exact Ev.neg (by omega) (Ev.const (by simp[idxP]))
 ·intro p x t n e hn ih
  have hm:=bE_ e
  have hx:=h x (mem_mid e)
  apply Ev.succ
  simp only[au_.l0,rd_mid' e]
  refine Ev.pos hm.1 (Ev.pos (by omega) (Ev.pos hm.1 (Ev.bind' _ hx ?_)))
  have hq:idxP q (x::t)=(if q x then 0 else if 0≤idxP q t then idxP q t+1 else -1):=rfl
  rw[hq]
  cases q x with
  | true=>exact Ev.a1_ (Ev.const (by simp[hn]))
  | false =>
   refine Ev.a3_ ?_
   rw[w64 (by omega) (by omega)]
   refine Ev.eq_ (ih (n+1) (by simp[hn])) ?_
   by_cases h2:0≤idxP q t
   ·simp[h2];omega
   ·simp[h2]
 ·by_cases h2:0≤idxP q l0
  ·simp[h2]
  ·rw[if_neg h2]
   exact(idxP_neg q l0 h2).symm
theorem aS_.any (l0:List Int) (q:Int→Bool) (hl:l0.length≤1048576) (h:∀x∈l0,Ev (fun k=>cf_.f x) (q x)):Ev (fun k=>aS_.f k l0 ) (l0.any q):=by
 unfold aS_.f
 refine Ev.bind' _ (au_.idx l0  q hl h) (Ev.const ?_)
 rw[idxP_nonneg]
end Go.Proofs.YthohohfmdieohaaGreatDoor.PL
end
section
set_option linter.unusedVariables false
set_option linter.unusedSimpArgs false
namespace Go.Proofs.YthohohfmdieohaaGreatDoor.PL
open Go.RowKit Go.Proofs.YthohohfmdieohaaGreatDoor.Pp Go.Proofs.YthohohfmdieohaaGreatDoor.PB Go.Proofs.YthohohfmdieohaaGreatDoorW.PrintWords Go.Proofs.YthohohfmdieohaaGreatDoorW.PrintLast
def targetOk (s:ByteArray):Bool := !decide (bts s=[])&&nameOk s&&(labels s).all (fun x => !decide (bts x=[42]))
theorem splitC_mem (c:UInt8):∀(l cur:List UInt8) (b:UInt8),b∈cur∨b∈l→b=c∨∃x∈splitC c cur l,b∈bts x
 | [],cur,b,h=>by
  rcases h with h|h
  ·exact Or.inr ⟨⟨cur.toArray⟩,by simp[splitC],by rw[b9_];exact h⟩
  ·cases h
 | a::l,cur,b,h=>by
  unfold splitC
  by_cases ha:a=c
  ·rw[if_pos ha]
   rcases h with h|h
   ·exact Or.inr ⟨_,List.mem_cons_self,by rw[b9_];exact h⟩
   ·rcases List.mem_cons.mp h with h|h
    ·exact Or.inl (h.trans ha)
    ·rcases splitC_mem c l [] b (Or.inr h) with h2|⟨x,hx,h2⟩
     ·exact Or.inl h2
     ·exact Or.inr ⟨x,List.mem_cons_of_mem _ hx,h2⟩
  ·rw[if_neg ha]
   refine splitC_mem c l (cur++[a]) b ?_
   rcases h with h|h
   ·exact Or.inl (by simp[h])
   ·rcases List.mem_cons.mp h with h|h
    ·exact Or.inl (by simp[h])
    ·exact Or.inr h
theorem splitC_sub (c:UInt8):∀(l cur:List UInt8) (x:ByteArray) (b:UInt8),x∈splitC c cur l→b∈bts x→b∈cur∨b∈l
 | [],cur,x,b,hx,hb=>by
  simp only[splitC,List.mem_singleton] at hx
  subst hx
  rw[b9_] at hb
  exact Or.inl hb
 | a::l,cur,x,b,hx,hb=>by
  unfold splitC at hx
  by_cases ha:a=c
  ·rw[if_pos ha] at hx
   rcases List.mem_cons.mp hx with rfl|h
   ·rw[b9_] at hb;exact Or.inl hb
   ·rcases splitC_sub c l [] x b h hb with h2|h2
    ·cases h2
    ·exact Or.inr (List.mem_cons_of_mem _ h2)
  ·rw[if_neg ha] at hx
   rcases splitC_sub c l (cur++[a]) x b hx hb with h2|h2
   ·rcases List.mem_append.mp h2 with h3|h3
    ·exact Or.inl h3
    ·simp only[List.mem_singleton] at h3
     exact Or.inr (by rw[h3];exact List.mem_cons_self)
   ·exact Or.inr (List.mem_cons_of_mem _ h2)
theorem labelOk_in {x:ByteArray} (h:labelOk x=true) {b:UInt8} (hb:b∈bts x):bts x=[42]∨okB b=true:=by
 unfold labelOk at h
 simp only[Bool.or_eq_true,decide_eq_true_eq,Bool.and_eq_true,List.all_eq_true] at h
 rcases h with h|h
 ·exact Or.inl h
 ·exact Or.inr (h.1 b hb)
theorem star_label {s:ByteArray} (h:nameOk s=true):(42:UInt8)∈bts s↔∃x∈labels s,bts x=[42]:=by
 have hl:(labels s).all labelOk=true:=by
  unfold nameOk at h
  simp only[Bool.and_eq_true] at h
  exact h.2
 rw[List.all_eq_true] at hl
 unfold labels at hl ⊢
 by_cases he:bts s=[]
 ·rw[if_pos he];simp[he]
 ·rw[if_neg he] at hl ⊢
  constructor
  ·intro hm
   rcases splitC_mem 46 (bts s) [] 42 (Or.inr hm) with h2|⟨x,hx,hb⟩
   ·cases h2
   ·refine⟨x,hx,?_⟩
    rcases labelOk_in (hl x hx) hb with h3|h3
    ·exact h3
    ·exact absurd h3 (by decide)
  ·rintro⟨x,hx,hb⟩
   rcases splitC_sub 46 (bts s) [] x 42 hx (by rw[hb];simp) with h2|h2
   ·cases h2
   ·exact h2
theorem index_ge (l:List UInt8) (c:UInt8):decide (Go.Lib.indexByte l c≥0)=decide (c∈l):=by
 by_cases h:0<Go.Lib.countByte l c
 ·obtain⟨pre,post,e,_,hi,_⟩:=index_some l c h
  rw[hi]
  have:c∈l:=by rw[e];simp
  simp[this]
 ·obtain⟨h1,h2⟩:=index_none l c (by omega)
  rw[h2]
  simp[h1]
theorem hasByte_eq (s:ByteArray) (c:UInt8):strings_Contains.f s (⟨#[c]⟩:ByteArray)=some (decide (c∈bts s)):=by
 unfold strings_Contains.f b1_.f
 rw[if_pos (by rfl)]
 simp only[Option.bind_some]
 show some (decide (Go.Lib.indexByte (bts s) c≥0))=_
 rw[index_ge]
theorem bne_dec (a b:List UInt8):(a != b) = !decide (a=b):=by
 by_cases h:a=b
 ·simp[h]
 ·rw[bne_iff_ne.mpr h];simp[h]
theorem isTarget_eq (s:ByteArray) (hs:s.size≤1048576):Ev (fun k=>cn_.f k s) (targetOk s):=by
 unfold cn_.f targetOk
 rw[ca_]
 by_cases h:bts s=[]
 ·exact Ev.pos h (Ev.const (by simp[h]))
 ·refine Ev.neg h (Ev.bind' _ (implGoodName_eq s hs) ?_)
  cases hn:nameOk s with
  | false=>exact Ev.a3_ (Ev.const (by simp))
  | true =>
   refine Ev.a1_ (Ev.cbind _ (hasByte_eq s 42) (Ev.const ?_))
   have hst:=star_label hn
   rw[Option.some.injEq,Bool.eq_iff_iff]
   simp only[h,decide_false,Bool.not_false,Bool.true_and,Bool.and_true,Bool.not_eq_true',decide_eq_false_iff_not,List.all_eq_true,Bool.not_eq_true',hst]
   constructor
   ·intro h2 x hx h3
    exact h2 ⟨x,hx,h3⟩
   ·rintro h2 ⟨x,hx,h3⟩
    exact h2 x hx h3
theorem specTarget_eq (s:ByteArray) (hs:s.size≤1048576):Ev (fun k=>bo_.f k s) (targetOk s):=by
 unfold bo_.f
 refine Ev.bind' _ (specLabels_eq s hs) ?_
 have hll:=labels_len s
 have main:∀(L:List ByteArray),L.length≤1048577→∀ok:Bool,Ev (fun k=>bo_.l0 k s ok L (L.length:Int) 0) (ok&&L.all (fun x => !decide (bts x=[42])) && !decide (bts s=[])):=by
  intro L hL ok
  refine bw_ L (fun k (o:Bool) i=>bo_.l0 k s o L (L.length:Int) i) (fun o t=>o&&t.all (fun x => !decide (bts x=[42])) && !decide (bts s=[])) (fun _ _=>True) ?_ ?_ ok trivial
  ·intro o _
   apply Ev.succ
   simp only[bo_.l0]
   refine Ev.neg (by omega) ?_
   cases o with
   | false=>exact Ev.a3_ (Ev.const (by simp))
   | true=>exact Ev.a1_ (Ev.const (by rw[ca_];by_cases h:bts s=[]<;>simp[h]))
  ·intro p x t o e _ ih
   have hm:=bE_ e
   apply Ev.succ
   simp only[bo_.l0,rdOf_mid e]
   refine Ev.pos hm.1 (Ev.pos (by omega) (Ev.pos hm.1 ?_))
   rw[w64 (i:=(p.length:Int)+1) (by omega) (by omega),ca_]
   cases o with
   | false=>exact Ev.a3_ (Ev.eq_ (ih false trivial) (by simp))
   | true =>
    refine Ev.a1_ (Ev.eq_ (ih _ trivial) ?_)
    rw[bne_dec]
    simp
 unfold targetOk nameOk
 by_cases h:(labels s).all labelOk=true
 ·rw[if_pos h]
  refine Ev.eq_ (main (labels s) (by omega) _) ?_
  simp only[h]
  cases decide ((bts s).length≤60)<;>cases decide ((labels s).length≤8)<;>cases decide (bts s=[])<;>simp
 ·rw[if_neg h]
  refine Ev.eq_ (main [] (by simp) false) ?_
  simp[h]
def wireB (s:ByteArray):ByteArray:=(labels s).foldl (fun a x=>a++(strOfNums [(x.size:Int) % 256]++x)) (⟨#[]⟩:ByteArray)
theorem nameOk_labels' {s:ByteArray} (h:nameOk s=true):(labels s).all labelOk=true:=by
 unfold nameOk at h
 simp only[Bool.and_eq_true] at h
 exact h.2
theorem target_name {s:ByteArray} (h:targetOk s=true):nameOk s=true:=by
 unfold targetOk at h
 simp only[Bool.and_eq_true] at h
 exact h.1.2
theorem nameOk_small {s:ByteArray} (h:nameOk s=true):s.size≤60∧(labels s).length≤8∧∀x∈labels s,x.size≤60:=by
 unfold nameOk at h
 simp only[Bool.and_eq_true,decide_eq_true_eq] at h
 have hz:=bt_ s
 refine⟨by omega,h.1.2,fun x hx=>?_⟩
 have:=labels_sizes s x hx
 omega
theorem sz_app (a b:ByteArray):(a++b).size=a.size+b.size:=ByteArray.size_append
theorem wire_step (a x:ByteArray) (n:Nat) (ha:a.size≤61 * n) (hx:x.size≤60) (hn:n≤8):(strOfNums [(x.size:Int) % 256]).size+x.size≤9223372036854775807∧a.size+(strOfNums [(x.size:Int) % 256]++x).size≤9223372036854775807∧(a++(strOfNums [(x.size:Int) % 256]++x)).size≤61 * (n+1):=by
 have h1:(strOfNums [(x.size:Int) % 256]).size=1:=strOfNums_size _
 simp only[sz_app,h1]
 omega
theorem empty_le:(⟨#[]⟩:ByteArray).size≤61 * ([]:List ByteArray).length:=by decide
theorem labelBytes_eq (s:ByteArray) (h:nameOk s=true):Ev (fun k=>bn_.f k s) (wireB s)∧(wireB s).size≤488:=by
 obtain⟨h1,h2,h3⟩:=nameOk_small h
 have hw:∀(t p:List ByteArray) (a:ByteArray),labels s=p++t→a.size≤61 * p.length→(t.foldl (fun a x=>a++(strOfNums [(x.size:Int) % 256]++x)) a).size≤61 * 8:=by
  intro t
  induction t with
  | nil =>
   intro p a e ha
   simp only[List.foldl_nil]
   have:p.length≤8:=by rw[e] at h2;simpa using h2
   omega
  | cons x t ih =>
   intro p a e ha
   rw[List.foldl_cons]
   have hp:(labels s).length=p.length+(t.length+1):=by rw[e];simp
   have:=wire_step a x p.length ha (h3 x (by rw[e];simp)) (by omega)
   exact ih (p++[x]) (a++(strOfNums [(x.size:Int) % 256]++x)) (by rw[e];simp) (by rw[show(p++[x]).length=p.length+1 from by simp];exact this.2.2)
 have h8:=hw (labels s) [] (⟨#[]⟩:ByteArray) (List.nil_append _).symm empty_le
 refine⟨?_,by unfold wireB;exact h8⟩
 unfold bn_.f wireB
 refine Ev.bind' _ (labelsOf_eq s (by omega)) ?_
 refine Ev.eq_ (bw_ (labels s) (fun k (a:ByteArray) i=>bn_.l0 k a (labels s) ((labels s).length:Int) i) (fun a t=>t.foldl (fun a x=>a++(strOfNums [(x.size:Int) % 256]++x)) a) (fun p a=>a.size≤61 * p.length) ?_ ?_ (⟨#[]⟩:ByteArray) empty_le) rfl
 ·intro a _
  apply Ev.succ
  simp only[bn_.l0]
  exact Ev.neg (by omega) (Ev.const rfl)
 ·intro p x t a e ha ih
  have hm:=bE_ e
  obtain⟨g1,g2,g3⟩:=wire_step a x p.length ha (h3 x (mem_mid e)) (by omega)
  apply Ev.succ
  simp only[bn_.l0,rdOf_mid e]
  refine Ev.pos hm.1 (Ev.pos (by omega) (Ev.pos hm.1 (Ev.cbind [(x.size:Int) % 256] rfl (Ev.pos g1 (Ev.pos g2 ?_)))))
  rw[w64 (i:=(p.length:Int)+1) (by omega) (by omega)]
  exact ih (a++(strOfNums [(x.size:Int) % 256]++x)) (by rw[show(p++[x]).length=p.length+1 from by simp];exact g3)
theorem l2Bytes_eq (s:ByteArray) (h:nameOk s=true):Ev (fun k=>bD_.f k s) (wireB s++(⟨#[0]⟩:ByteArray)):=by
 obtain⟨h1,h2,h3⟩:=nameOk_small h
 unfold bD_.f wireB
 have hl:(labels s).all labelOk=true:=(nameOk_labels' h)
 have hsl:=specLabels_eq s (by omega)
 rw[if_pos hl] at hsl
 refine Ev.bind' _ hsl ?_
 refine Ev.eq_ (bw_ (labels s) (fun k (a:ByteArray) i=>bD_.l0 k a (labels s) ((labels s).length:Int) i) (fun a t=>t.foldl (fun a x=>a++(strOfNums [(x.size:Int) % 256]++x)) a++(⟨#[0]⟩:ByteArray)) (fun p a=>a.size≤61 * p.length) ?_ ?_ (⟨#[]⟩:ByteArray) empty_le) rfl
 ·intro a ha
  apply Ev.succ
  simp only[bD_.l0]
  exact Ev.neg (by omega) (Ev.pos (by omega) (Ev.const rfl))
 ·intro p x t a e ha ih
  have hm:=bE_ e
  obtain⟨g1,g2,g3⟩:=wire_step a x p.length ha (h3 x (mem_mid e)) (by omega)
  apply Ev.succ
  simp only[bD_.l0,rdOf_mid e]
  refine Ev.pos hm.1 (Ev.pos (by omega) (Ev.pos hm.1 (Ev.cbind [(x.size:Int) % 256] rfl (Ev.pos g1 (Ev.pos g2 ?_)))))
  rw[w64 (i:=(p.length:Int)+1) (by omega) (by omega)]
  exact ih (a++(strOfNums [(x.size:Int) % 256]++x)) (by rw[show(p++[x]).length=p.length+1 from by simp];exact g3)
end Go.Proofs.YthohohfmdieohaaGreatDoor.PL
end
section
set_option linter.unusedVariables false
set_option linter.unusedSimpArgs false
namespace Go.Proofs.YthohohfmdieohaaGreatDoor.PL
open Go.RowKit Go.Proofs.YthohohfmdieohaaGreatDoor.Pp Go.Proofs.YthohohfmdieohaaGreatDoor.PB Go.Proofs.YthohohfmdieohaaGreatDoorW.PrintWords Go.Proofs.YthohohfmdieohaaGreatDoorW.PrintLast
def cutB (c:UInt8):List UInt8→Option (List UInt8 × List UInt8)
 | []=>none
 | b::t=>if b=c then some ([],t) else(cutB c t).map (fun p=>(b::p.1,p.2))
theorem cutB_none {c:UInt8}:∀{l:List UInt8},cutB c l=none→c∉l
 | [],_=>by simp
 | b::t,h=>by
  unfold cutB at h
  by_cases hb:b=c
  ·rw[if_pos hb] at h;cases h
  ·rw[if_neg hb] at h
   simp only[Option.map_eq_none_iff] at h
   have:=cutB_none h
   intro hm
   rcases List.mem_cons.mp hm with e|e
   ·exact hb e.symm
   ·exact this e
theorem cutB_some {c:UInt8}:∀{l p q:List UInt8},cutB c l=some (p,q)→l=p++c::q∧c∉p
 | [],p,q,h=>by cases h
 | b::t,p,q,h=>by
  unfold cutB at h
  by_cases hb:b=c
  ·rw[if_pos hb] at h
   simp only[Option.some.injEq,Prod.mk.injEq] at h
   obtain⟨rfl,rfl⟩:=h
   exact⟨by rw[hb];rfl,by simp⟩
  ·rw[if_neg hb] at h
   simp only[Option.map_eq_some_iff,Prod.mk.injEq,Prod.exists] at h
   obtain⟨p',q',h1,rfl,rfl⟩:=h
   obtain⟨h2,h3⟩:=cutB_some h1
   refine⟨by rw[h2];rfl,?_⟩
   intro hm
   rcases List.mem_cons.mp hm with e|e
   ·exact hb e.symm
   ·exact h3 e
theorem splitC_ne (c:UInt8):∀(l cur:List UInt8),splitC c cur l≠[]
 | [],cur=>by simp[splitC]
 | b::l,cur=>by
  unfold splitC
  split
  ·simp
  ·exact splitC_ne c l _
theorem splitC_two (c:UInt8):∀(l cur:List UInt8),c∈l→2≤(splitC c cur l).length
 | [],cur,h=>by cases h
 | b::l,cur,h=>by
  unfold splitC
  by_cases hb:b=c
  ·rw[if_pos hb]
   have:=List.length_pos_iff.mpr (splitC_ne c l [])
   simp only[List.length_cons]
   omega
  ·rw[if_neg hb]
   rcases List.mem_cons.mp h with e|e
   ·exact absurd e.symm hb
   ·exact splitC_two c l _ e
theorem specSplitC_eq (c:UInt8) (s:ByteArray) (hs:s.size≤1048576):Ev (fun k=>ba_.f k s (c.toNat:Int)) (splitC c [] (bts s)):=by
 unfold ba_.f
 have hz:=bt_ s
 refine Ev.eq_ (bw_ (bts s) (fun k (st:List ByteArray × Nat × List UInt8) i=>ba_.l0 k s (c.toNat:Int) st.1 st.2.1 i) (fun st t=>st.1++splitC c st.2.2 t) (fun p st=>st.2.1≤p.length∧st.2.2=p.drop st.2.1∧st.1.length≤p.length) ?_ ?_ ([],0,[]) ⟨Nat.zero_le _,rfl,Nat.zero_le _⟩) (by simp)
 ·rintro⟨acc,fr,cur⟩ ⟨h1,h2,h3⟩
  apply Ev.succ
  simp only[ba_.l0]
  simp only at h1 h2 h3
  refine Ev.neg (by omega) (Ev.pos (by omega) (Ev.pos (by omega) (Ev.pos (by omega) (Ev.const ?_))))
  simp only[splitC]
  rw[extract_bts,h2]
  congr 4
  rw[List.take_of_length_le]
  ·simp
  ·simp[hz]
 ·rintro p b t ⟨acc,fr,cur⟩ e ⟨h1,h2,h3⟩ ih
  have hm:=bE_ e
  simp only at h1 h2 h3
  apply Ev.succ
  simp only[ba_.l0]
  refine Ev.pos (by omega) (Ev.pos (by omega) ?_)
  rw[bt_mid e,w64 (i:=(p.length:Int)+1) (by omega) (by omega)]
  by_cases hb:b=c
  ·subst hb
   refine Ev.pos (by rfl) (Ev.pos (by omega) (Ev.pos (by omega) (Ev.pos (by omega) (Ev.pos (by omega) ?_))))
   have hx:s.extract ((fr:Nat):Int).toNat ((p.length:Nat):Int).toNat=⟨cur.toArray⟩:=by
    rw[extract_bts,h2]
    congr 2
    rw[e]
    simp only[Int.toNat_natCast]
    rw[List.drop_append_of_le_length h1,List.take_append_of_le_length (by simp),List.take_of_length_le (by simp)]
   rw[hx]
   have hc:((p.length:Int)+1)=(((p.length+1:Nat)):Int):=by omega
   refine Ev.eq_ (ih (acc++[⟨cur.toArray⟩],p.length+1,[]) ⟨by simp,by simp,by simp;omega⟩) ?_
   simp[splitC]
  ·have:¬((b.toNat:Int)=(c.toNat:Int)):=by
    intro h
    apply hb
    apply UInt8.toNat_inj.mp
    omega
   refine Ev.neg this ?_
   refine Ev.eq_ (ih (acc,fr,cur++[b]) ⟨by simp;omega,?_,by simp;omega⟩) ?_
   ·simp only
    rw[h2,List.drop_append_of_le_length h1]
   ·simp[splitC,hb]
def partsA (s:ByteArray):List ByteArray:=splitC 46 [] (bts s)
def aOk (s:ByteArray):Bool:=(partsA s).all (fun x=>numOk (bts x) 255)&&decide ((partsA s).length=4)
def aB (s:ByteArray):ByteArray:=(partsA s).foldl (fun a x=>a++byt1 (numOf (bts x))) (⟨#[]⟩:ByteArray)
def mxOk (s:ByteArray):Bool:=match cutB 32 (bts s) with
 | some (p,q)=>numOk p 65535&&targetOk ⟨q.toArray⟩
 | none=>false
def mxB (s:ByteArray):ByteArray:=match cutB 32 (bts s) with
 | some (p,q)=>byt2 (numOf p)++(wireB ⟨q.toArray⟩++(⟨#[0]⟩:ByteArray))
 | none=>(⟨#[]⟩:ByteArray)
def txtC (b:UInt8):Bool:=decide (32≤b.toNat)&&decide (b.toNat≤126)
def txtOk (s:ByteArray):Bool:=(bts s).all txtC&&decide ((bts s).length≤30)
def dataOk (kind:Int) (s:ByteArray):Bool :=
 if kind=1 then aOk s else if kind=2∨kind=5 then targetOk s else if kind=6 then numOk (bts s) 4294967295 else if kind=15 then mxOk s else if kind=16 then txtOk s else false
def dataB (kind:Int) (s:ByteArray):ByteArray :=
 if kind=1 then aB s else if kind=2∨kind=5 then wireB s++(⟨#[0]⟩:ByteArray) else if kind=6 then byt4 (numOf (bts s)) else if kind=15 then mxB s else if kind=16 then byt1 (s.size:Int)++s else(⟨#[]⟩:ByteArray)
theorem byt1_size (n:Int):(byt1 n).size=1:=strOfNums_size _
theorem byt2_size (n:Int):(byt2 n).size=2:=strOfNums_size _
theorem parts_len (s:ByteArray):(partsA s).length≤s.size+1:=by
 have hz:=bt_ s
 have:=splitC_len 46 (bts s) []
 unfold partsA
 omega
theorem parts_size {s x:ByteArray} (h:x∈partsA s):x.size≤s.size:=by
 have hz:=bt_ s
 have:=splitC_sizes 46 (bts s) [] x h
 simp at this
 omega
theorem in255 (l:List UInt8) (m:Int):inR (numOf l) 0 m=numOk l m:=by
 unfold inR numOk
 by_cases h1:0≤numOf l<;>by_cases h2:numOf l≤m<;>simp[h1,h2]
theorem specA_eq (s:ByteArray) (hs:s.size≤1048576):∃B,Ev (fun k=>ak_.f k 1 s) (B,aOk s)∧(aOk s=true→B=aB s):=by
 have hl:=parts_len s
 have main:Ev (fun k=>ak_.f k 1 s) (if (partsA s).all (fun x=>numOk (bts x) 255)=true then(aB s,(((partsA s).length:Int)==4)) else((⟨#[]⟩:ByteArray),false)):=by
  unfold ak_.f
  refine Ev.pos rfl (Ev.bind' (partsA s) (specSplitC_eq 46 s hs) ?_)
  unfold aB
  refine Ev.eq_ (bw_ (partsA s) (fun k (a:ByteArray) i=>ak_.l0 k a (partsA s) (partsA s) ((partsA s).length:Int) i) (fun a t=>if t.all (fun x=>numOk (bts x) 255)=true then(t.foldl (fun a x=>a++byt1 (numOf (bts x))) a,(((partsA s).length:Int)==4)) else((⟨#[]⟩:ByteArray),false)) (fun p a=>a.size≤p.length) ?_ ?_ (⟨#[]⟩:ByteArray) (Nat.le_refl 0)) rfl
  ·intro a ha
   apply Ev.succ
   simp only[ak_.l0]
   exact Ev.neg (by omega) (Ev.const (by simp))
  ·intro p x t a e ha ih
   have hm:=bE_ e
   have hx:=parts_size (mem_mid e)
   apply Ev.succ
   simp only[ak_.l0,rdOf_mid e]
   refine Ev.pos hm.1 (Ev.pos (by omega) (Ev.pos hm.1 (Ev.bind' (numOf (bts x)) (l1Int_eq x (by omega)) (Ev.cbind _ (l1In_eq _ _ _) ?_))))
   rw[in255]
   cases hn:numOk (bts x) 255 with
   | false=>exact Ev.a3_ (Ev.const (by simp[hn]))
   | true =>
    have h1:=byt1_size (numOf (bts x))
    refine Ev.a1_ (Ev.bind' (byt1 (numOf (bts x))) (number1_eq _) (Ev.pos (by omega) ?_))
    rw[w64 (i:=(p.length:Int)+1) (by omega) (by omega)]
    refine Ev.eq_ (ih (a++byt1 (numOf (bts x))) (by rw[sz_app,h1];simp;omega)) ?_
    simp[hn]
 refine⟨if (partsA s).all (fun x=>numOk (bts x) 255)=true then aB s else(⟨#[]⟩:ByteArray),Ev.eq_ main ?_,?_⟩
 ·unfold aOk
  by_cases h:(partsA s).all (fun x=>numOk (bts x) 255)=true
  ·rw[if_pos h,if_pos h,h]
   by_cases h4:(partsA s).length=4
   ·simp[h4]
   ·have:¬(((partsA s).length:Int)=4):=by omega
    simp[h4,this]
  ·rw[if_neg h,if_neg h]
   simp[h]
 ·intro h
  unfold aOk at h
  simp only[Bool.and_eq_true] at h
  rw[if_pos h.1]
theorem implA_eq (s:ByteArray) (hs:s.size≤1048576):Ev (fun k=>aw_.f k 1 s) (if aOk s=true then(aB s,true) else((⟨#[]⟩:ByteArray),false)):=by
 have hl:=parts_len s
 unfold aw_.f
 have hsp:Ev (fun k=>b2_.f k s (⟨#[46]⟩:ByteArray)) (partsA s):=strSplit_eq s hs
 refine Ev.pos rfl (Ev.bind' (partsA s) hsp ?_)
 unfold aB
 have hne:partsA s≠[]:=splitC_ne 46 (bts s) []
 by_cases h4:(partsA s).length=4
 ·refine Ev.eq_ (bw_ (partsA s) (fun k (a:ByteArray) i=>aw_.l0 k a (partsA s) (partsA s) ((partsA s).length:Int) i) (fun a t=>if t.all (fun x=>numOk (bts x) 255)=true then(t.foldl (fun a x=>a++byt1 (numOf (bts x))) a,true) else((⟨#[]⟩:ByteArray),false)) (fun p a=>a.size≤p.length) ?_ ?_ (⟨#[]⟩:ByteArray) (Nat.le_refl 0)) ?_
  ·intro a ha
   apply Ev.succ
   simp only[aw_.l0]
   exact Ev.neg (by omega) (Ev.const (by simp))
  ·intro p x t a e ha ih
   have hm:=bE_ e
   have hx:=parts_size (mem_mid e)
   obtain⟨v,hv,hv2⟩:=numberIn_eq x (by omega) 255 (by omega)
   apply Ev.succ
   simp only[aw_.l0,rdOf_mid e]
   refine Ev.pos hm.1 (Ev.pos (by omega) (Ev.pos hm.1 (Ev.cbind _ hv ?_)))
   cases hn:numOk (bts x) 255 with
   | false=>exact Ev.a3_ (Ev.const (by simp[hn]))
   | true =>
    have hvn:=hv2 hn
    subst hvn
    have h1:=byt1_size (numOf (bts x))
    refine Ev.a1_ (Ev.pos (by omega) (Ev.bind' (byt1 (numOf (bts x))) (big1_eq _) (Ev.pos (by omega) ?_)))
    rw[w64 (i:=(p.length:Int)+1) (by omega) (by omega)]
    refine Ev.eq_ (ih (a++byt1 (numOf (bts x))) (by rw[sz_app,h1];simp;omega)) ?_
    simp[hn]
  ·unfold aOk
   simp[h4]
 ·obtain⟨x,t,e⟩:∃x t,partsA s=x::t:=by
   cases h:partsA s with
   | nil=>exact absurd h hne
   | cons x t=>exact⟨x,t,rfl⟩
  have hx:=parts_size (s:=s) (x:=x) (by rw[e];simp)
  obtain⟨v,hv,hv2⟩:=numberIn_eq x (by omega) 255 (by omega)
  have hno:aOk s=false:=by unfold aOk;simp[h4]
  have hr:rdOf ByteArray.empty (partsA s) 0=x:=rdOf_mid (p:=[]) e
  have hp:0<(partsA s).length:=List.length_pos_iff.mpr hne
  apply Ev.succ
  simp only[aw_.l0,hr,hno]
  refine Ev.pos (by omega) (Ev.pos (by omega) (Ev.pos (by omega) (Ev.cbind _ hv ?_)))
  cases hn:numOk (bts x) 255 with
  | false=>exact Ev.a3_ (Ev.const rfl)
  | true=>exact Ev.a1_ (Ev.neg (by omega) (Ev.const rfl))
theorem strCut32 (s:ByteArray) (hs:s.size≤1048576):strings_Cut.f s (⟨#[32]⟩:ByteArray)=some (match cutB 32 (bts s) with
  | some (p,q)=>(⟨p.toArray⟩,⟨q.toArray⟩,true)
  | none=>(s,⟨#[]⟩,false)):=by
 have hz:=bt_ s
 unfold strings_Cut.f stringslite_Cut.f bI_.f
 rw[if_pos (by rfl),show Go.Lib.indexByte s.data.toList ((⟨#[32]⟩:ByteArray).data.toList.headD 0)=Go.Lib.indexByte (bts s) 32 from rfl]
 simp only[Option.bind_some]
 cases hc:cutB 32 (bts s) with
 | none =>
  have hn:=cutB_none hc
  have hcnt:¬0<Go.Lib.countByte (bts s) 32:=by
   intro h
   obtain⟨pre,post,e,_⟩:=index_some (bts s) 32 h
   exact hn (by rw[e];simp)
  obtain⟨_,hi⟩:=index_none (bts s) 32 (by omega)
  rw[hi,if_neg (by omega)]
  rfl
 | some pq =>
  obtain⟨p,q⟩:=pq
  obtain⟨e,hp⟩:=cutB_some hc
  have hcnt:0<Go.Lib.countByte (bts s) 32:=by
   rcases Nat.eq_zero_or_pos (Go.Lib.countByte (bts s) 32) with h|h
   ·exact absurd (by rw[e];simp:(32:UInt8)∈bts s) (index_none (bts s) 32 h).1
   ·exact h
  obtain⟨pre,post,e2,hp2,hi,_⟩:=index_some (bts s) 32 hcnt
  have hpre:pre=p∧post=q:=by
   have:=e2.symm.trans e
   have h1:=splitC_pre 32 post pre [] hp2
   have h2:=splitC_pre 32 q p [] hp
   clear hi e e2 hcnt hc hz
   induction pre generalizing p with
   | nil =>
    cases p with
    | nil=>simp at this;exact⟨rfl,this⟩
    | cons a p=>simp at this;exact absurd this.1 (fun h=>hp (by simp[h]))
   | cons a pre ih =>
    cases p with
    | nil=>simp at this;exact absurd this.1 (fun h=>hp2 (by simp[h]))
    | cons b p =>
     simp only[List.cons_append,List.cons.injEq] at this
     obtain⟨rfl,this⟩:=this
     have:=ih p (fun h=>hp (List.mem_cons_of_mem _ h)) (fun h=>hp2 (List.mem_cons_of_mem _ h)) this (splitC_pre 32 post pre [] (fun h=>hp2 (List.mem_cons_of_mem _ h))) (splitC_pre 32 q p [] (fun h=>hp (List.mem_cons_of_mem _ h)))
     exact⟨by rw[this.1],this.2⟩
  obtain⟨rfl,rfl⟩:=hpre
  have hlen:(bts s).length=pre.length+(post.length+1):=by rw[e];simp
  have h1:((⟨#[32]⟩:ByteArray).size:Int)=1:=rfl
  rw[hi,h1,w64 (i:=(pre.length:Int)+1) (by omega) (by omega),if_pos (by omega),if_pos (by omega),if_pos (by omega),if_pos (by omega),if_pos (by omega)]
  simp only[Option.bind_some]
  have x1:s.extract 0 ((pre.length:Int)).toNat=⟨pre.toArray⟩:=by
   rw[extract_bts]
   congr 2
   rw[e]
   simp
  have x2:s.extract (((pre.length:Int)+1)).toNat s.size=⟨post.toArray⟩:=by
   rw[extract_bts]
   congr 2
   have e':bts s=(pre++[32])++post:=by simpa using e
   have h1:(((pre.length:Int)+1)).toNat=(pre++[32]).length:=by simp<;>omega
   rw[e',h1,List.drop_left,List.take_of_length_le]
   simp at hlen ⊢
   omega
  rw[x1,x2]
end Go.Proofs.YthohohfmdieohaaGreatDoor.PL
end
section
set_option linter.unusedVariables false
set_option linter.unusedSimpArgs false
namespace Go.Proofs.YthohohfmdieohaaGreatDoor.PL
open Go.RowKit Go.Proofs.YthohohfmdieohaaGreatDoor.Pp Go.Proofs.YthohohfmdieohaaGreatDoor.PB Go.Proofs.YthohohfmdieohaaGreatDoorW.PrintWords Go.Proofs.YthohohfmdieohaaGreatDoorW.PrintLast
def ltS (a b:ByteArray):Bool:=Op.bytesLess (bts a) (bts b)
def cmpR:List ByteArray→List ByteArray→Int
 | [],[]=>0
 | [],_::_ => -1
 | _::_,[]=>1
 | a::s,b::t=>if ltS a b=true then -1 else if bts a=bts b then cmpR s t else 1
def cmpN (a b:ByteArray):Int:=cmpR (labels a).reverse (labels b).reverse
theorem rev_at {α:Type} {l p t:List α} {x d:α} (e:l.reverse=p++x::t):rdOf d l ((l.length:Int) - ((p.length:Int)+1))=x:=by
 have hl:l=t.reverse++x::p.reverse:=by
  have:=congrArg List.reverse e
  rw[List.reverse_reverse] at this
  rw[this]
  simp
 have hn:((l.length:Int) - ((p.length:Int)+1))=((t.reverse.length:Nat):Int):=by
  rw[hl]
  simp<;>omega
 rw[hn]
 exact rdOf_mid hl
theorem specCompare_loop (x y:List ByteArray) (hx:x.length≤1048577) (hy:y.length≤1048577):∀(s t p q:List ByteArray),x.reverse=p++s→y.reverse=q++t→p.length=q.length→Ev (fun k=>aO_.l0 k x y ((p.length:Int)+1)) (cmpR s t)
 | [],t,p,q,e1,e2,hp=>by
  have l1:x.length=p.length:=by have:=congrArg List.length e1;simpa using this
  have l2:y.length=q.length+t.length:=by have:=congrArg List.length e2;simpa using this
  apply Ev.succ
  simp only[aO_.l0]
  refine Ev.neg (by omega) (Ev.succ ?_)
  simp only[aO_.j1]
  cases t with
  | nil =>
   simp only[List.length_nil] at l2
   first
    | exact Ev.neg (by simp) (Ev.neg (by omega) (Ev.neg (by omega) (Ev.const rfl)))
    | exact Ev.neg (by omega) (Ev.neg (by omega) (Ev.const rfl))
  | cons b t =>
   simp only[List.length_cons] at l2
   first
    | exact Ev.neg (by simp) (Ev.pos (by omega) (Ev.const rfl))
    | exact Ev.pos (by omega) (Ev.const rfl)
 | a::s,[],p,q,e1,e2,hp=>by
  have l1:x.length=p.length+(s.length+1):=by have:=congrArg List.length e1;simpa using this
  have l2:y.length=q.length:=by have:=congrArg List.length e2;simpa using this
  apply Ev.succ
  simp only[aO_.l0]
  refine Ev.pos (by omega) (Ev.succ ?_)
  simp only[aO_.j1]
  refine Ev.neg (by simp;omega) (Ev.neg (by omega) (Ev.pos (by omega) (Ev.const rfl)))
 | a::s,b::t,p,q,e1,e2,hp=>by
  have l1:x.length=p.length+(s.length+1):=by have:=congrArg List.length e1;simpa using this
  have l2:y.length=q.length+(t.length+1):=by have:=congrArg List.length e2;simpa using this
  have ra:rdOf ByteArray.empty x ((x.length:Int) - ((p.length:Int)+1))=a:=rev_at e1
  have rb:rdOf ByteArray.empty y ((y.length:Int) - ((p.length:Int)+1))=b:=by rw[hp];exact rev_at e2
  have ih:=specCompare_loop x y hx hy s t (p++[a]) (q++[b]) (by rw[e1];simp) (by rw[e2];simp) (by simp[hp])
  have ec:(((p++[a]).length:Nat):Int)+1=(p.length:Int)+1+1:=by simp
  rw[ec] at ih
  apply Ev.succ
  simp only[aO_.l0]
  refine Ev.pos (by omega) (Ev.succ ?_)
  simp only[aO_.j1]
  rw[w64 (i:=(x.length:Int) - ((p.length:Int)+1)) (by omega) (by omega),w64 (i:=(y.length:Int) - ((p.length:Int)+1)) (by omega) (by omega),w64 (i:=(p.length:Int)+1+1) (by omega) (by omega),ra,rb,ca_,ca_]
  refine Ev.pos (by simp;omega) (Ev.pos (by omega) (Ev.pos (by omega) (Ev.pos (by omega) (Ev.pos (by omega) ?_))))
  have hc:cmpR (a::s) (b::t)=if ltS a b=true then -1 else if bts a=bts b then cmpR s t else 1:=rfl
  rw[hc]
  by_cases h1:ltS a b=true
  ·rw[if_pos h1]
   exact Ev.pos h1 (Ev.const rfl)
  ·rw[if_neg h1]
   refine Ev.neg h1 ?_
   by_cases h2:bts a=bts b
   ·rw[if_pos h2]
    exact Ev.pos h2 ih
   ·rw[if_neg h2]
    exact Ev.neg h2 (Ev.const rfl)
theorem specCompare_eq (a b:ByteArray) (ha:a.size≤1048576) (hb:b.size≤1048576) (ga:(labels a).all labelOk=true) (gb:(labels b).all labelOk=true):Ev (fun k=>aO_.f k a b) (cmpN a b):=by
 have la:=labels_len a
 have lb:=labels_len b
 unfold aO_.f
 have h1:=specLabels_eq a ha
 have h2:=specLabels_eq b hb
 rw[if_pos ga] at h1
 rw[if_pos gb] at h2
 refine Ev.bind' _ h1 (Ev.bind' _ h2 ?_)
 have:=specCompare_loop (labels a) (labels b) (by omega) (by omega) (labels a).reverse (labels b).reverse [] [] rfl rfl rfl
 unfold cmpN
 simpa using this
theorem reverse_loop:∀(n:Nat) (M A B:List ByteArray),M.length≤n→A.length=B.length→(A++M++B).length≤1048577→Ev (fun k=>am_.l0 k (A++M++B) (A.length:Int) ((A.length:Int)+M.length - 1)) (A++M.reverse++B)
 | n,[],A,B,hn,hAB,hl=>by
  apply Ev.succ
  simp only[am_.l0]
  exact Ev.neg (by simp<;>omega) (Ev.const (by simp))
 | n,[m],A,B,hn,hAB,hl=>by
  apply Ev.succ
  simp only[am_.l0]
  exact Ev.neg (by simp<;>omega) (Ev.const (by simp))
 | 0,m1::m2::M,A,B,hn,hAB,hl=>by simp at hn
 | n+1,m1::m2::M,A,B,hn,hAB,hl=>by
  obtain⟨M',z,hM⟩:∃M' z,m2::M=M'++[z]:=⟨(m2::M).dropLast,(m2::M).getLast (by simp),(List.dropLast_concat_getLast _).symm⟩
  rw[hM] at hn hl ⊢
  have hlen:(A++(m1::(M'++[z]))++B).length=A.length+(M'.length+2)+B.length:=by simp;omega
  rw[hlen] at hl
  simp only[List.length_cons,List.length_append,List.length_nil] at hn
  have e1:A++(m1::(M'++[z]))++B=A++m1::(M'++z::B):=by simp
  have e2:A++(m1::(M'++[z]))++B=(A++m1::M')++z::B:=by simp
  have hj:(A.length:Int)+(((m1::(M'++[z])).length:Nat):Int) - 1=(((A++m1::M').length:Nat):Int):=by simp;omega
  have hj2:(((A++m1::M').length:Nat):Int)=(A.length:Int)+M'.length+1:=by simp;omega
  rw[hj]
  have ih:=reverse_loop n M' (A++[z]) (m1::B) (by omega) (by simp;omega) (by simp;omega)
  apply Ev.succ
  simp only[am_.l0]
  have r1:rdOf ByteArray.empty (A++(m1::(M'++[z]))++B) (A.length:Int)=m1:=rdOf_mid e1
  have r2:rdOf ByteArray.empty (A++(m1::(M'++[z]))++B) (((A++m1::M').length:Nat):Int)=z:=rdOf_mid e2
  rw[r1,r2,w64 (i:=(A.length:Int)+1) (by omega) (by omega),w64 (i:=(((A++m1::M').length:Nat):Int) - 1) (by omega) (by omega)]
  refine Ev.pos (by omega) (Ev.pos (by omega) (Ev.pos (by rw[hlen];omega) (Ev.pos (by omega) (Ev.pos (by rw[hlen];omega) ?_))))
  have s1:(A++(m1::(M'++[z]))++B).set ((A.length:Int)).toNat z=(A++z::M')++z::B:=by
   rw[e1,set_mid]
   simp
  have s2:((A++z::M')++z::B).set ((((A++m1::M').length:Nat):Int)).toNat m1=(A++[z])++M'++(m1::B):=by
   have:(((A++m1::M').length:Nat):Int)=(((A++z::M').length:Nat):Int):=by simp
   rw[this,set_mid]
   simp
  rw[s1,s2]
  have c1:(((A++[z]).length:Nat):Int)=(A.length:Int)+1:=by simp
  have c2:(A.length:Int)+1+(M'.length:Int) - 1=(((A++m1::M').length:Nat):Int) - 1:=by rw[hj2];omega
  rw[c1,c2] at ih
  refine Ev.eq_ ih ?_
  simp
theorem reverse_eq (l:List ByteArray) (hl:l.length≤1048577):Ev (fun k=>am_.f k l) l.reverse:=by
 unfold am_.f
 rw[w64 (by omega) (by omega)]
 have:=reverse_loop l.length l [] [] (Nat.le_refl _) rfl (by simpa using hl)
 simpa using this
theorem cmpStr_eq (a b:ByteArray):cd_.f a b=some (if ltS a b=true then -1 else if bts a=bts b then 0 else 1):=by
 unfold cd_.f bg_.f ltS
 simp only[Option.bind_some,bne_self_eq_false,Bool.false_eq_true,if_false,ca_]
 split
 ·rfl
 ·split<;>rfl
theorem sliceCompare_eq (x y:List ByteArray) (hx:x.length≤1048577) (hy:y.length≤1048577):Ev (fun k=>aL_.f k x y) (cmpR x y):=by
 unfold aL_.f
 have main:∀(s t p q:List ByteArray),x=p++s→y=q++t→p.length=q.length→Ev (fun k=>aL_.l0 k x y x (x.length:Int) (p.length:Int)) (cmpR s t):=by
  intro s
  induction s with
  | nil =>
   intro t p q e1 e2 hp
   have l1:x.length=p.length:=by rw[e1];simp
   have l2:y.length=q.length+t.length:=by rw[e2];simp
   apply Ev.succ
   simp only[aL_.l0]
   refine Ev.neg (by omega) ?_
   cases t with
   | nil=>simp only[List.length_nil] at l2;exact Ev.neg (by omega) (Ev.const rfl)
   | cons b t=>simp only[List.length_cons] at l2;exact Ev.pos (by omega) (Ev.const rfl)
  | cons a s ih =>
   intro t p q e1 e2 hp
   have m1:=bE_ e1
   apply Ev.succ
   simp only[aL_.l0,rdOf_mid e1]
   refine Ev.pos m1.1 (Ev.pos (by omega) (Ev.pos m1.1 ?_))
   cases t with
   | nil =>
    have l2:y.length=q.length:=by rw[e2];simp
    exact Ev.pos (by omega) (Ev.const rfl)
   | cons b t =>
    have m2:=bE_ e2
    have rb:rdOf ByteArray.empty y (p.length:Int)=b:=by rw[hp];exact rdOf_mid e2
    have hg:=ih t (p++[a]) (q++[b]) (by rw[e1];simp) (by rw[e2];simp) (by simp[hp])
    have ec:(((p++[a]).length:Nat):Int)=(p.length:Int)+1:=by simp
    rw[ec] at hg
    rw[rb,w64 (i:=(p.length:Int)+1) (by omega) (by omega)]
    refine Ev.neg (by omega) (Ev.pos (by omega) (Ev.cbind _ (cmpStr_eq a b) ?_))
    have hc:cmpR (a::s) (b::t)=if ltS a b=true then -1 else if bts a=bts b then cmpR s t else 1:=rfl
    rw[hc]
    by_cases h1:ltS a b=true
    ·rw[if_pos h1,if_pos h1]
     exact Ev.neg (by omega) (Ev.const rfl)
    ·rw[if_neg h1,if_neg h1]
     by_cases h2:bts a=bts b
     ·rw[if_pos h2,if_pos h2]
      exact Ev.pos rfl hg
     ·rw[if_neg h2,if_neg h2]
      exact Ev.neg (by omega) (Ev.const rfl)
 simpa using main x y [] [] rfl rfl rfl
theorem compareNames_eq (a b:ByteArray) (ha:a.size≤1048576) (hb:b.size≤1048576):Ev (fun k=>ci_.f k a b) (cmpN a b):=by
 have la:=labels_len a
 have lb:=labels_len b
 unfold ci_.f
 refine Ev.bind' _ (labelsOf_eq a ha) (Ev.bind' _ (labelsOf_eq b hb) (Ev.bind' _ (reverse_eq _ (by omega)) (Ev.bind' _ (reverse_eq _ (by omega)) (Ev.bind' _ (sliceCompare_eq _ _ (by simp;omega) (by simp;omega)) (Ev.const rfl)))))
end Go.Proofs.YthohohfmdieohaaGreatDoor.PL
end
section
set_option linter.unusedVariables false
set_option linter.unusedSimpArgs false
namespace Go.Proofs.YthohohfmdieohaaGreatDoor.PL
open Go.RowKit Go.Proofs.YthohohfmdieohaaGreatDoor.Pp Go.Proofs.YthohohfmdieohaaGreatDoor.PB Go.Proofs.YthohohfmdieohaaGreatDoorW.PrintWords Go.Proofs.YthohohfmdieohaaGreatDoorW.PrintLast
theorem nameOk_byte {s:ByteArray} (h:nameOk s=true) {b:UInt8} (hb:b∈bts s):b=46∨b=42∨okB b=true:=by
 have hl:=nameOk_labels' h
 rw[List.all_eq_true] at hl
 unfold labels at hl
 by_cases he:bts s=[]
 ·rw[he] at hb;cases hb
 ·rw[if_neg he] at hl
  rcases splitC_mem 46 (bts s) [] b (Or.inr hb) with h2|⟨x,hx,h2⟩
  ·exact Or.inl h2
  ·rcases labelOk_in (hl x hx) h2 with h3|h3
   ·rw[h3] at h2
    simp only[List.mem_singleton] at h2
    exact Or.inr (Or.inl h2)
   ·exact Or.inr (Or.inr h3)
theorem target_no32 {s:ByteArray} (h:(32:UInt8)∈bts s):targetOk s=false:=by
 cases ht:targetOk s with
 | false=>rfl
 | true =>
  rcases nameOk_byte (target_name ht) h with h2|h2|h2
  ·cases h2
  ·cases h2
  ·exact absurd h2 (by decide)
theorem target_empty:targetOk (⟨#[]⟩:ByteArray)=false:=by
 unfold targetOk
 have:bts (⟨#[]⟩:ByteArray)=[]:=rfl
 simp[this]
theorem wireB_small {s:ByteArray} (h:targetOk s=true):(wireB s).size≤488:=(labelBytes_eq s (target_name h)).2
def tgt (kind:Int):Bool:=decide (kind=2∨kind=5)
theorem specJ1_eq (kind:Int) (s:ByteArray) (hs:s.size≤1048576) (h1:kind≠1):∃B,Ev (fun k=>ak_.j1 k s kind (tgt kind)) (B,dataOk kind s)∧(dataOk kind s=true→B=dataB kind s):=by
 have hz:=bt_ s
 unfold dataOk dataB
 rw[if_neg h1,if_neg h1]
 by_cases ht:kind=2∨kind=5
 ·rw[if_pos ht,if_pos ht,show tgt kind=true from decide_eq_true ht]
  cases hk:targetOk s with
  | false =>
   refine⟨(⟨#[]⟩:ByteArray),Ev.succ ?_,fun h=>by cases h⟩
   ·simp only[ak_.j1]
    refine Ev.pos (by first|rfl|trivial) (Ev.bind' _ (specTarget_eq s hs) ?_)
    rw[hk]
    exact Ev.a3_ (Ev.const rfl)
  | true =>
   refine⟨_,Ev.succ ?_,fun _=>rfl⟩
   simp only[ak_.j1]
   refine Ev.pos (by first|rfl|trivial) (Ev.bind' _ (specTarget_eq s hs) ?_)
   rw[hk]
   exact Ev.a1_ (Ev.bind' _ (l2Bytes_eq s (target_name hk)) (Ev.const rfl))
 ·rw[if_neg ht,if_neg ht,show tgt kind=false from decide_eq_false ht]
  by_cases h6:kind=6
  ·rw[if_pos h6,if_pos h6]
   refine⟨byt4 (numOf (bts s)),Ev.succ ?_,fun _=>rfl⟩
   simp only[ak_.j1]
   refine Ev.neg (by simp) (Ev.pos h6 (Ev.bind' _ (l1Int_eq s hs) (Ev.bind' _ (number4_eq _) (Ev.cbind _ (l1In_eq _ _ _) (Ev.const ?_)))))
   rw[in255]
  ·rw[if_neg h6,if_neg h6]
   by_cases h15:kind=15
   ·rw[if_pos h15,if_pos h15]
    have step:∀r,Ev (fun k=>if ((splitC 32 [] (bts s)).length:Int)=2 then(if 0<((splitC 32 [] (bts s)).length:Int) then((a4_.f k (rdOf ByteArray.empty (splitC 32 [] (bts s)) 0)).bind fun t175=>((bB_.f t175 0 65535).bind fun t176=>(if t176=true then(if 1<((splitC 32 [] (bts s)).length:Int) then((bo_.f k (rdOf ByteArray.empty (splitC 32 [] (bts s)) 1)).bind fun t178=>(ak_.j2 k (splitC 32 [] (bts s)) (!t178))) else(none)) else(ak_.j2 k (splitC 32 [] (bts s)) true)))) else(none)) else(ak_.j2 k (splitC 32 [] (bts s)) true)) r→Ev (fun k=>ak_.j1 k s kind false) r:=by
     intro r h
     apply Ev.succ
     simp only[ak_.j1]
     exact Ev.neg (by simp) (Ev.neg h6 (Ev.pos h15 (Ev.bind' _ (specSplitC_eq 32 s hs) h)))
    have hbad:∀L,Ev (fun k=>ak_.j2 k L true) ((⟨#[]⟩:ByteArray),false):=by
     intro L
     apply Ev.succ
     simp only[ak_.j2]
     exact Ev.pos (by first|rfl|trivial) (Ev.const rfl)
    unfold mxOk mxB
    cases hc:cutB 32 (bts s) with
    | none =>
     refine⟨(⟨#[]⟩:ByteArray),step _ ?_,fun h=>by cases h⟩
     ·rw[splitC_none 32 (bts s) [] (cutB_none hc)]
      exact Ev.neg (by simp) (hbad _)
    | some pq =>
     obtain⟨p,q⟩:=pq
     obtain⟨e,hp⟩:=cutB_some hc
     have hlen:(bts s).length=p.length+(q.length+1):=by rw[e];simp
     have hsp:splitC 32 [] (bts s)=⟨p.toArray⟩::splitC 32 [] q:=by
      rw[e,splitC_pre 32 q p [] hp]
      rfl
     simp only
     by_cases hq:(32:UInt8)∈q
     ·have htq:targetOk ⟨q.toArray⟩=false:=target_no32 (by rw[b9_];exact hq)
      rw[htq,Bool.and_false]
      refine⟨(⟨#[]⟩:ByteArray),step _ ?_,fun h=>by cases h⟩
      ·have h2:=splitC_two 32 q [] hq
       rw[hsp]
       exact Ev.neg (by simp only[List.length_cons];omega) (hbad _)
     ·rw[splitC_none 32 q [] hq] at hsp
      have hps:(⟨p.toArray⟩:ByteArray).size≤1048576:=by rw[bt_,b9_];omega
      have hqs:(⟨q.toArray⟩:ByteArray).size≤1048576:=by rw[bt_,b9_];omega
      have hsp2:splitC 32 [] (bts s)=[⟨p.toArray⟩,⟨q.toArray⟩]:=hsp
      have r0:rdOf ByteArray.empty ([⟨p.toArray⟩,⟨q.toArray⟩]:List ByteArray) 0=⟨p.toArray⟩:=rfl
      have r1:rdOf ByteArray.empty ([⟨p.toArray⟩,⟨q.toArray⟩]:List ByteArray) 1=⟨q.toArray⟩:=rfl
      have hn:=l1Int_eq ⟨p.toArray⟩ hps
      rw[b9_] at hn
      cases hk:numOk p 65535&&targetOk ⟨q.toArray⟩ with
      | false =>
       refine⟨(⟨#[]⟩:ByteArray),step _ ?_,fun h=>by cases h⟩
       ·rw[hsp2,r0,r1]
        refine Ev.pos (by simp) (Ev.pos (by simp) (Ev.bind' _ hn (Ev.cbind _ (l1In_eq _ _ _) ?_)))
        rw[in255]
        cases hp2:numOk p 65535 with
        | false=>exact Ev.a3_ (hbad _)
        | true =>
         rw[hp2,Bool.true_and] at hk
         refine Ev.a1_ (Ev.pos (by simp) (Ev.bind' _ (specTarget_eq _ hqs) ?_))
         rw[hk]
         exact hbad _
      | true =>
       simp only[Bool.and_eq_true] at hk
       refine⟨byt2 (numOf p)++(wireB ⟨q.toArray⟩++(⟨#[0]⟩:ByteArray)),step _ ?_,fun _=>rfl⟩
       rw[hsp2,r0,r1]
       refine Ev.pos (by simp) (Ev.pos (by simp) (Ev.bind' _ hn (Ev.cbind _ (l1In_eq _ _ _) ?_)))
       rw[in255,hk.1]
       refine Ev.a1_ (Ev.pos (by simp) (Ev.bind' _ (specTarget_eq _ hqs) ?_))
       rw[hk.2]
       apply Ev.succ
       simp only[ak_.j2,r0,r1]
       have hw:=wireB_small hk.2
       have h0:(⟨#[0]⟩:ByteArray).size=1:=rfl
       have hb2:=byt2_size (numOf p)
       refine Ev.neg (by simp) (Ev.pos (by simp) (Ev.bind' _ hn (Ev.bind' _ (number2_eq _) (Ev.pos (by simp) (Ev.bind' _ (l2Bytes_eq _ (target_name hk.2)) (Ev.pos ?_ (Ev.const rfl)))))))
       rw[sz_app,h0,hb2]
       omega
   ·rw[if_neg h15,if_neg h15]
    by_cases h16:kind=16
    ·rw[if_pos h16,if_pos h16]
     have main:Ev (fun k=>ak_.l1 k s 0) (if (bts s).all txtC=true then(byt1 (s.size:Int)++s,decide ((s.size:Int)≤30)) else((⟨#[]⟩:ByteArray),false)):=by
      refine Ev.eq_ (bw_ (bts s) (fun k (_:Unit) i=>ak_.l1 k s i) (fun _ t=>if t.all txtC=true then(byt1 (s.size:Int)++s,decide ((s.size:Int)≤30)) else((⟨#[]⟩:ByteArray),false)) (fun _ _=>True) ?_ ?_ () trivial) rfl
      ·intro _ _
       apply Ev.succ
       simp only[ak_.l1]
       have hb1:(strOfNums [(s.size:Int) % 256]).size=1:=strOfNums_size _
       exact Ev.neg (by omega) (Ev.cbind _ rfl (Ev.pos (by omega) (Ev.const (by simp[byt1]))))
      ·intro p b t _ e _ ih
       have hm:=bE_ e
       apply Ev.succ
       simp only[ak_.l1]
       refine Ev.pos (by omega) (Ev.pos (by omega) ?_)
       rw[bt_mid e,w64 (i:=(p.length:Int)+1) (by omega) (by omega)]
       by_cases c1:(b.toNat:Int)<32
       ·refine Ev.pos c1 (Ev.const ?_)
        have:txtC b=false:=by unfold txtC;simp;omega
        simp[this]
       ·refine Ev.neg c1 ?_
        by_cases c2:(b.toNat:Int) > 126
        ·refine Ev.pos c2 (Ev.const ?_)
         have:txtC b=false:=by unfold txtC;simp;omega
         simp[this]
        ·refine Ev.neg c2 (Ev.eq_ (ih () trivial) ?_)
         have:txtC b=true:=by unfold txtC;simp;omega
         simp[this]
     have jj:∀r,Ev (fun k=>ak_.l1 k s 0) r→Ev (fun k=>ak_.j1 k s kind false) r:=by
      intro r h
      apply Ev.succ
      simp only[ak_.j1]
      exact Ev.neg (by simp) (Ev.neg h6 (Ev.neg h15 (Ev.pos h16 h)))
     refine⟨if (bts s).all txtC=true then byt1 (s.size:Int)++s else(⟨#[]⟩:ByteArray),jj _ (Ev.eq_ main ?_),?_⟩
     ·unfold txtOk
      by_cases ha:(bts s).all txtC=true
      ·rw[if_pos ha,if_pos ha,ha]
       have:decide ((s.size:Int)≤30)=decide ((bts s).length≤30):=decide_eq_decide.mpr (by omega)
       rw[this,Bool.true_and]
      ·rw[if_neg ha,if_neg ha]
       simp[ha]
     ·intro h
      unfold txtOk at h
      simp only[Bool.and_eq_true] at h
      rw[if_pos h.1]
    ·rw[if_neg h16]
     refine⟨(⟨#[]⟩:ByteArray),Ev.succ ?_,fun h=>by cases h⟩
     ·simp only[ak_.j1]
      exact Ev.neg (by simp) (Ev.neg h6 (Ev.neg h15 (Ev.neg h16 (Ev.const rfl))))
theorem specData_eq (kind:Int) (s:ByteArray) (hs:s.size≤1048576):∃B,Ev (fun k=>ak_.f k kind s) (B,dataOk kind s)∧(dataOk kind s=true→B=dataB kind s):=by
 by_cases h1:kind=1
 ·subst h1
  obtain⟨B,h2,h3⟩:=specA_eq s hs
  have e1:dataOk 1 s=aOk s:=by unfold dataOk;rw[if_pos rfl]
  have e2:dataB 1 s=aB s:=by unfold dataB;rw[if_pos rfl]
  rw[e1,e2]
  exact⟨B,h2,h3⟩
 ·obtain⟨B,h2,h3⟩:=specJ1_eq kind s hs h1
  refine⟨B,?_,h3⟩
  unfold ak_.f
  refine Ev.neg h1 ?_
  by_cases h22:kind=2
  ·refine Ev.pos h22 ?_
   have:(kind==2)=tgt kind:=by unfold tgt;simp[h22]
   rw[this]
   exact h2
  ·refine Ev.neg h22 ?_
   have:(kind==5)=tgt kind:=by
    unfold tgt
    by_cases h5:kind=5<;>simp[h22,h5]
   rw[this]
   exact h2
end Go.Proofs.YthohohfmdieohaaGreatDoor.PL
end
section
set_option linter.unusedVariables false
set_option linter.unusedSimpArgs false
namespace Go.Proofs.YthohohfmdieohaaGreatDoor.PL
open Go.RowKit Go.Proofs.YthohohfmdieohaaGreatDoor.Pp Go.Proofs.YthohohfmdieohaaGreatDoor.PB Go.Proofs.YthohohfmdieohaaGreatDoorW.PrintWords Go.Proofs.YthohohfmdieohaaGreatDoorW.PrintLast
theorem txt_any (s:ByteArray):(bytesOf s).any (fun n=>decide (n<32)||decide (n > 126)) = !(bts s).all txtC:=by
 unfold bytesOf
 show((bts s).map fun b=>(b.toNat:Int)).any _=_
 rw[List.any_map]
 induction bts s with
 | nil=>rfl
 | cons b t ih =>
  simp only[List.any_cons,List.all_cons,ih,Bool.not_and,Function.comp]
  congr 1
  unfold txtC
  by_cases h1:(b.toNat:Int)<32
  ·have h2:¬32≤b.toNat:=by omega
   simp[h1,h2]
  ·have h2:32≤b.toNat:=by omega
   by_cases h3:(b.toNat:Int) > 126
   ·have h4:¬b.toNat≤126:=by omega
    simp[h1,h2,h3,h4]
   ·have h4:b.toNat≤126:=by omega
    simp[h1,h2,h3,h4]
theorem implJ1_eq (kind:Int) (s:ByteArray) (hs:s.size≤1048576) (h1:kind≠1):Ev (fun k=>aw_.j1 k s kind (tgt kind)) (if dataOk kind s=true then(dataB kind s,true) else((⟨#[]⟩:ByteArray),false)):=by
 have hz:=bt_ s
 have h0:(⟨#[0]⟩:ByteArray).size=1:=rfl
 unfold dataOk dataB
 rw[if_neg h1,if_neg h1]
 by_cases ht:kind=2∨kind=5
 ·rw[if_pos ht,if_pos ht,show tgt kind=true from decide_eq_true ht]
  apply Ev.succ
  simp only[aw_.j1]
  refine Ev.pos (by first|rfl|trivial) (Ev.bind' _ (isTarget_eq s hs) ?_)
  cases hk:targetOk s with
  | false=>exact Ev.a3_ (Ev.const rfl)
  | true =>
   have hw:=labelBytes_eq s (target_name hk)
   exact Ev.a1_ (Ev.bind' _ hw.1 (Ev.pos (by have:=hw.2;omega) (Ev.const rfl)))
 ·rw[if_neg ht,if_neg ht,show tgt kind=false from decide_eq_false ht]
  by_cases h6:kind=6
  ·rw[if_pos h6,if_pos h6]
   obtain⟨v,hv,hv2⟩:=numberIn_eq s hs 4294967295 (by omega)
   apply Ev.succ
   simp only[aw_.j1]
   refine Ev.neg (by simp) (Ev.pos h6 (Ev.cbind _ hv ?_))
   cases hn:numOk (bts s) 4294967295 with
   | false=>exact Ev.a3_ (Ev.const rfl)
   | true =>
    have:=hv2 hn
    subst this
    exact Ev.a1_ (Ev.bind' _ (big4_eq _) (Ev.const rfl))
  ·rw[if_neg h6,if_neg h6]
   have hbad:∀a b,Ev (fun k=>aw_.j2 k a b true) ((⟨#[]⟩:ByteArray),false):=by
    intro a b
    apply Ev.succ
    simp only[aw_.j2]
    exact Ev.pos (by first|rfl|trivial) (Ev.const rfl)
   by_cases h15:kind=15
   ·rw[if_pos h15,if_pos h15]
    unfold mxOk mxB
    have hcut:=strCut32 s hs
    cases hc:cutB 32 (bts s) with
    | none =>
     rw[hc] at hcut
     simp only at hcut
     obtain⟨v,hv,hv2⟩:=numberIn_eq s hs 65535 (by omega)
     apply Ev.succ
     simp only[aw_.j1]
     refine Ev.neg (by simp) (Ev.neg h6 (Ev.pos h15 (Ev.cbind _ hcut (Ev.cbind _ hv ?_))))
     cases hn:numOk (bts s) 65535 with
     | false=>exact Ev.a3_ (Ev.eq_ (hbad _ _) rfl)
     | true =>
      refine Ev.a1_ (Ev.bind' _ (isTarget_eq (⟨#[]⟩:ByteArray) (by decide)) ?_)
      rw[target_empty]
      exact Ev.eq_ (hbad _ _) rfl
    | some pq =>
     obtain⟨p,q⟩:=pq
     rw[hc] at hcut
     simp only at hcut
     obtain⟨e,hp⟩:=cutB_some hc
     have hlen:(bts s).length=p.length+(q.length+1):=by rw[e];simp
     have hps:(⟨p.toArray⟩:ByteArray).size≤1048576:=by rw[bt_,b9_];omega
     have hqs:(⟨q.toArray⟩:ByteArray).size≤1048576:=by rw[bt_,b9_];omega
     obtain⟨v,hv,hv2⟩:=numberIn_eq ⟨p.toArray⟩ hps 65535 (by omega)
     rw[b9_] at hv hv2
     apply Ev.succ
     simp only[aw_.j1]
     refine Ev.neg (by simp) (Ev.neg h6 (Ev.pos h15 (Ev.cbind _ hcut (Ev.cbind _ hv ?_))))
     cases hn:numOk p 65535 with
     | false=>exact Ev.a3_ (Ev.eq_ (hbad _ _) (by simp))
     | true =>
      have:=hv2 hn
      subst this
      refine Ev.a1_ (Ev.bind' _ (isTarget_eq _ hqs) ?_)
      cases hk:targetOk ⟨q.toArray⟩ with
      | false=>exact Ev.eq_ (hbad _ _) (by simp)
      | true =>
       have hw:=labelBytes_eq _ (target_name hk)
       have hb2:=byt2_size (numOf p)
       apply Ev.succ
       simp only[aw_.j2]
       refine Ev.neg (by simp) (Ev.bind' _ (big2_eq _) (Ev.bind' _ hw.1 (Ev.pos (by have:=hw.2;omega) (Ev.pos (by rw[sz_app,hb2];have:=hw.2;omega) (Ev.const ?_)))))
       simp[ByteArray.append_assoc]
   ·rw[if_neg h15,if_neg h15]
    by_cases h16:kind=16
    ·rw[if_pos h16,if_pos h16]
     apply Ev.succ
     simp only[aw_.j1]
     refine Ev.neg (by simp) (Ev.neg h6 (Ev.neg h15 (Ev.pos h16 ?_)))
     unfold txtOk
     by_cases h30:(s.size:Int) > 30
     ·refine Ev.pos h30 (Ev.const ?_)
      have:¬(bts s).length≤30:=by omega
      simp[this]
     ·have h30':(bts s).length≤30:=by omega
      refine Ev.neg h30 (Ev.pos (by omega) (Ev.bind' _ (aS_.any (bytesOf s) (fun n=>decide (n<32)||decide (n > 126)) (by rw[bytesOf_length];omega) ?_) ?_))
      ·intro n _
       unfold cf_.f
       by_cases hn:n<32
       ·exact Ev.pos hn (Ev.const (by simp[hn]))
       ·exact Ev.neg hn (Ev.const (by simp[hn]))
      ·rw[txt_any]
       have hb1:=byt1_size (s.size:Int)
       cases ha:(bts s).all txtC with
       | false=>exact Ev.a1_ (Ev.const (by simp))
       | true=>exact Ev.a3_ (Ev.bind' _ (big1_eq _) (Ev.pos (by omega) (Ev.const (by simp[h30']))))
    ·rw[if_neg h16]
     apply Ev.succ
     simp only[aw_.j1]
     exact Ev.neg (by simp) (Ev.neg h6 (Ev.neg h15 (Ev.neg h16 (Ev.const rfl))))
theorem implData_eq (kind:Int) (s:ByteArray) (hs:s.size≤1048576):Ev (fun k=>aw_.f k kind s) (if dataOk kind s=true then(dataB kind s,true) else((⟨#[]⟩:ByteArray),false)):=by
 by_cases h1:kind=1
 ·subst h1
  have e1:dataOk 1 s=aOk s:=by unfold dataOk;rw[if_pos rfl]
  have e2:dataB 1 s=aB s:=by unfold dataB;rw[if_pos rfl]
  rw[e1,e2]
  exact implA_eq s hs
 ·have h2:=implJ1_eq kind s hs h1
  unfold aw_.f
  refine Ev.neg h1 ?_
  by_cases h22:kind=2
  ·refine Ev.pos h22 ?_
   have:(kind==2)=tgt kind:=by unfold tgt;simp[h22]
   rw[this]
   exact h2
  ·refine Ev.neg h22 ?_
   have:(kind==5)=tgt kind:=by
    unfold tgt
    by_cases h5:kind=5<;>simp[h22,h5]
   rw[this]
   exact h2
theorem dataBytes_eq (kind:Int) (s:ByteArray) (hs:s.size≤1048576) (h:dataOk kind s=true):Ev (fun k=>b4_.f k kind s) (dataB kind s):=by
 unfold b4_.f
 have:=implData_eq kind s hs
 rw[if_pos h] at this
 exact Ev.bind' _ this (Ev.pos rfl (Ev.const rfl))
theorem numOk_len {l:List UInt8} {m:Int} (h:numOk l m=true):l.length≤10∧isNumeral l=true∧(valF 0 l:Int)≤m:=by
 unfold numOk numOf at h
 simp only[decide_eq_true_eq] at h
 by_cases hn:isNumeral l=true∧l.length≤10
 ·rw[if_pos hn] at h
  exact⟨hn.2,hn.1,h.2⟩
 ·rw[if_neg hn] at h
  omega
theorem numOk_digits {l:List UInt8} {m:Int} (n:Nat) (hn:1≤n) (hm:m<10 ^ n) (h:numOk l m=true):l.length≤n:=by
 obtain⟨h1,h2,h3⟩:=numOk_len h
 rcases Nat.lt_or_ge n l.length with h4|h4
 ·have:=numeral_great l h2 (by omega)
  have h5:10 ^ n≤10 ^ (l.length - 1):=Nat.pow_le_pow_right (by decide) (by omega)
  have h6:((10 ^ n:Nat):Int)≤((valF 0 l:Nat):Int):=by omega
  have h7:((10 ^ n:Nat):Int)=(10:Int) ^ n:=by simp
  omega
 ·exact h4
theorem splitC_total (c:UInt8):∀(l cur:List UInt8),cur.length+l.length+1=((splitC c cur l).map ByteArray.size).sum+(splitC c cur l).length
 | [],cur=>by
  simp only[splitC,List.map_cons,List.map_nil,List.sum_cons,List.sum_nil,List.length_cons,List.length_nil]
  rw[bt_,b9_]
  omega
 | b::l,cur=>by
  unfold splitC
  by_cases hb:b=c
  ·rw[if_pos hb]
   have:=splitC_total c l []
   simp only[List.map_cons,List.sum_cons,List.length_cons,List.length_nil] at this ⊢
   rw[bt_,b9_]
   omega
  ·rw[if_neg hb]
   have:=splitC_total c l (cur++[b])
   simp only[List.length_cons,List.length_append,List.length_nil] at this ⊢
   omega
theorem data_small {kind:Int} {s:ByteArray} (h:dataOk kind s=true):s.size≤100:=by
 have hz:=bt_ s
 unfold dataOk at h
 split at h
 ·unfold aOk at h
  simp only[Bool.and_eq_true,decide_eq_true_eq,List.all_eq_true] at h
  have ht:=splitC_total 46 (bts s) []
  have h4:(splitC 46 [] (bts s)).length=4:=h.2
  have hs:∀x∈splitC 46 [] (bts s),x.size≤3:=by
   intro x hx
   have:=numOk_digits 3 (by omega) (by decide) (h.1 x hx)
   rw[bt_]
   exact this
  have hsum:∀(L:List ByteArray),(∀x∈L,x.size≤3)→(L.map ByteArray.size).sum≤3 * L.length:=by
   intro L
   induction L with
   | nil=>intro _;simp
   | cons x t ih =>
    intro hL
    have h1:=hL x (by simp)
    have h2:=ih (fun y hy=>hL y (by simp[hy]))
    simp only[List.map_cons,List.sum_cons,List.length_cons]
    omega
  have:=hsum _ hs
  simp only[List.length_nil] at ht
  omega
 ·split at h
  ·have:=(nameOk_small (target_name h)).1
   omega
  ·split at h
   ·have:=(numOk_len h).1
    omega
   ·split at h
    ·unfold mxOk at h
     cases hc:cutB 32 (bts s) with
     | none=>rw[hc] at h;cases h
     | some pq =>
      obtain⟨p,q⟩:=pq
      rw[hc] at h
      simp only[Bool.and_eq_true] at h
      obtain⟨e,_⟩:=cutB_some hc
      have h1:=(numOk_len h.1).1
      have h2:=(nameOk_small (target_name h.2)).1
      rw[bt_,b9_] at h2
      have hlen:(bts s).length=p.length+(q.length+1):=by rw[e];simp
      omega
    ·split at h
     ·unfold txtOk at h
      simp only[Bool.and_eq_true,decide_eq_true_eq] at h
      omega
     ·cases h
def recOk (a:ByteArray) (b c:Int) (d:ByteArray):Bool:=dataOk b d&&nameOk a&&inR c 0 100000
theorem specRec_eq (a:ByteArray) (b c:Int) (d:ByteArray) (ha:a.size≤1048576) (hd:d.size≤1048576):Ev (fun k=>c_.f k a b c d) (recOk a b c d):=by
 unfold c_.f recOk
 obtain⟨B,h1,h2⟩:=specData_eq b d hd
 refine Ev.bind' _ h1 ?_
 cases hk:dataOk b d with
 | false=>exact Ev.a3_ (Ev.const rfl)
 | true =>
  refine Ev.a1_ (Ev.bind' _ (specGoodName_eq a ha) ?_)
  cases hn:nameOk a with
  | false=>exact Ev.a3_ (Ev.const rfl)
  | true=>exact Ev.a1_ (Ev.cbind _ (l1In_eq _ _ _) (Ev.const (by simp)))
theorem implRec_eq (a:ByteArray) (b c:Int) (d:ByteArray) (ha:a.size≤1048576) (hd:d.size≤1048576):Ev (fun k=>b8_.f k a b c d) (recOk a b c d):=by
 unfold b8_.f recOk
 refine Ev.bind' _ (implGoodName_eq a ha) ?_
 cases hn:nameOk a with
 | false=>exact Ev.a3_ (Ev.const (by simp))
 | true =>
  refine Ev.a1_ (Ev.cbind _ (within_eq _ _ _) ?_)
  cases hr:inR c 0 100000 with
  | false=>exact Ev.a3_ (Ev.const (by simp))
  | true =>
   refine Ev.a1_ ?_
   by_cases h100:(d.size:Int) > 100
   ·refine Ev.pos h100 (Ev.const ?_)
    cases hk:dataOk b d with
    | false=>rfl
    | true=>have:=data_small hk;omega
   ·refine Ev.neg h100 (Ev.bind' _ (implData_eq b d hd) (Ev.const ?_))
    cases hk:dataOk b d<;>simp
end Go.Proofs.YthohohfmdieohaaGreatDoor.PL
end
section
set_option linter.unusedVariables false
set_option linter.unusedSimpArgs false
namespace Go.Proofs.YthohohfmdieohaaGreatDoor.PL
open Go.RowKit Go.Proofs.YthohohfmdieohaaGreatDoor.Pp Go.Proofs.YthohohfmdieohaaGreatDoor.PB Go.Proofs.YthohohfmdieohaaGreatDoorW.PrintWords Go.Proofs.YthohohfmdieohaaGreatDoorW.PrintLast
def cmpI (a b:Int):Int:=if a<b then -1 else if a > b then 1 else 0
def cmpB (a b:List UInt8):Int:=if Op.bytesLess a b=true then -1 else if a=b then 0 else 1
def cmpRec (a b:aa_):Int :=
 if cmpN a.f0 b.f0=0 then(if a.f1=b.f1 then(if bts (dataB a.f1 a.f3)=bts (dataB b.f1 b.f3) then cmpI a.f2 b.f2
  else(if Op.bytesLess (bts (dataB a.f1 a.f3)) (bts (dataB b.f1 b.f3))=true then -1 else 1)) else(if a.f1<b.f1 then -1 else 1)) else cmpN a.f0 b.f0
def okR (r:aa_):Bool:=recOk r.f0 r.f1 r.f2 r.f3
def szR (r:aa_):Prop:=r.f0.size≤1048576∧r.f3.size≤1048576
theorem okR_data {r:aa_} (h:okR r=true):dataOk r.f1 r.f3=true:=by
 unfold okR recOk at h
 simp only[Bool.and_eq_true] at h
 exact h.1.1
theorem okR_name {r:aa_} (h:okR r=true):nameOk r.f0=true:=by
 unfold okR recOk at h
 simp only[Bool.and_eq_true] at h
 exact h.1.2
theorem less_eq (b:Bool):b5_.f b=some (if b=true then -1 else 1):=by
 unfold b5_.f
 split<;>rfl
theorem specCmpRec_eq (a b:aa_) (ha:szR a) (hb:szR b) (ga:okR a=true) (gb:okR b=true):Ev (fun k=>bQ_.f k a.f0 a.f1 a.f2 a.f3 b.f0 b.f1 b.f2 b.f3) (cmpRec a b):=by
 unfold bQ_.f
 refine Ev.bind' _ (specCompare_eq a.f0 b.f0 ha.1 hb.1 (nameOk_labels' (okR_name ga)) (nameOk_labels' (okR_name gb))) ?_
 by_cases hn:cmpN a.f0 b.f0=0
 ·refine Ev.pos hn ?_
  obtain⟨A,h1,h2⟩:=specData_eq a.f1 a.f3 ha.2
  obtain⟨B,h3,h4⟩:=specData_eq b.f1 b.f3 hb.2
  have hA:=h2 (okR_data ga)
  have hB:=h4 (okR_data gb)
  subst hA
  subst hB
  refine Ev.bind' _ h1 (Ev.bind' _ h3 ?_)
  simp only[ca_]
  by_cases ht:a.f1=b.f1
  ·refine Ev.pos ht ?_
   by_cases hd:bts (dataB a.f1 a.f3)=bts (dataB b.f1 b.f3)
   ·rw[show cmpRec a b=cmpI a.f2 b.f2 from by unfold cmpRec;rw[if_pos hn,if_pos ht,if_pos hd]]
    refine Ev.pos hd ?_
    unfold cmpI
    by_cases hq:a.f2=b.f2
    ·exact Ev.pos hq (Ev.const (by rw[hq];simp))
    ·refine Ev.neg hq (Ev.cbind _ (less_eq _) (Ev.const ?_))
     by_cases hl:a.f2<b.f2
     ·simp[hl]
     ·have:a.f2 > b.f2:=by omega
      simp[hl,this]
   ·rw[show cmpRec a b=(if Op.bytesLess (bts (dataB a.f1 a.f3)) (bts (dataB b.f1 b.f3))=true then -1 else 1) from by unfold cmpRec;rw[if_pos hn,if_pos ht,if_neg hd]]
    exact Ev.neg hd (Ev.cbind _ (less_eq _) (Ev.const rfl))
  ·rw[show cmpRec a b=(if a.f1<b.f1 then -1 else 1) from by unfold cmpRec;rw[if_pos hn,if_neg ht]]
   refine Ev.neg ht (Ev.cbind _ (less_eq _) (Ev.const ?_))
   by_cases hl:a.f1<b.f1<;>simp[hl]
 ·rw[show cmpRec a b=cmpN a.f0 b.f0 from by unfold cmpRec;rw[if_neg hn]]
  exact Ev.neg hn (Ev.const rfl)
theorem bytesLess_irr:∀(a:List UInt8),Op.bytesLess a a=false
 | []=>rfl
 | x::a=>by
  have h:¬x<x:=by simp
  unfold Op.bytesLess
  simp[h,bytesLess_irr a]
theorem compareBytes_eq:∀(a b:List UInt8),Go.Lib.compareBytes a b=cmpB a b
 | [],[]=>rfl
 | [],y::b=>rfl
 | x::a,[]=>by
  unfold Go.Lib.compareBytes cmpB
  have:Op.bytesLess (x::a) []=false:=rfl
  rw[this]
  simp
 | x::a,y::b=>by
  have ih:=compareBytes_eq a b
  unfold Go.Lib.compareBytes
  unfold cmpB at ih ⊢
  have e:Op.bytesLess (x::a) (y::b)=(decide (x<y)||(x==y&&Op.bytesLess a b)):=rfl
  rw[e]
  by_cases h1:x<y
  ·rw[if_pos h1];simp[h1]
  ·rw[if_neg h1]
   by_cases h2:y<x
   ·rw[if_pos h2]
    have h3:¬x=y:=by
     intro h
     subst h
     exact h1 h2
    simp[h1,h3]
   ·rw[if_neg h2]
    have h3:x=y:=by
     apply UInt8.toNat_inj.mp
     have h4:¬x.toNat<y.toNat:=fun h=>h1 (UInt8.lt_iff_toNat_lt.mpr h)
     have h5:¬y.toNat<x.toNat:=fun h=>h2 (UInt8.lt_iff_toNat_lt.mpr h)
     omega
    subst h3
    rw[ih]
    simp[h1]
def orI:List Int→Int
 | []=>0
 | x::t=>if x=0 then orI t else x
theorem cmpOr_eq (l:List Int) (hl:l.length≤1048576):Ev (fun k=>bH_.f k l) (orI l):=by
 unfold bH_.f
 refine Ev.eq_ (bw_ l (fun k (_:Unit) i=>bH_.l0 k 0 l (l.length:Int) i) (fun _ t=>orI t) (fun _ _=>True) ?_ ?_ () trivial) rfl
 ·intro _ _
  apply Ev.succ
  simp only[bH_.l0]
  exact Ev.neg (by omega) (Ev.const rfl)
 ·intro p x t _ e _ ih
  have hm:=bE_ e
  apply Ev.succ
  simp only[bH_.l0,rd_mid' e]
  refine Ev.pos hm.1 (Ev.pos (by omega) (Ev.pos hm.1 ?_))
  rw[w64 (i:=(p.length:Int)+1) (by omega) (by omega)]
  by_cases h:x=0
  ·exact Ev.pos h (Ev.eq_ (ih () trivial) (by simp[orI,h]))
  ·exact Ev.neg h (Ev.const (by simp[orI,h]))
theorem cmpInt_eq (a b:Int):bY_.f a b=some (cmpI a b):=by
 unfold bY_.f bu_.f cmpI
 simp only[Option.bind_some,bne_self_eq_false,Bool.false_eq_true,if_false]
 split
 ·rfl
 ·split<;>rfl
theorem keys_eq (a b:aa_) (ha:szR a) (hb:szR b):Ev (fun k=>bs_.f k a.f0 a.f1 a.f2 a.f3 b.f0 b.f1 b.f2 b.f3) (orI [cmpN a.f0 b.f0,cmpI a.f1 b.f1]):=by
 unfold bs_.f
 exact Ev.bind' _ (compareNames_eq a.f0 b.f0 ha.1 hb.1) (Ev.cbind _ (cmpInt_eq _ _) (Ev.bind' _ (cmpOr_eq _ (by simp)) (Ev.const rfl)))
theorem cmpI_zero {a b:Int}:cmpI a b=0↔a=b:=by
 unfold cmpI
 by_cases h1:a<b
 ·simp[h1];omega
 ·by_cases h2:a > b
  ·simp[h1,h2];omega
  ·simp[h1,h2];omega
theorem implCmpRec_eq (a b:aa_) (ha:szR a) (hb:szR b) (ga:okR a=true) (gb:okR b=true):Ev (fun k=>aR_.f k a.f0 a.f1 a.f2 a.f3 b.f0 b.f1 b.f2 b.f3) (cmpRec a b):=by
 unfold aR_.f
 refine Ev.bind' _ (keys_eq a b ha hb) (Ev.bind' _ (dataBytes_eq _ _ ha.2 (okR_data ga)) (Ev.bind' _ (dataBytes_eq _ _ hb.2 (okR_data gb)) (Ev.cbind (cmpB (bts (dataB a.f1 a.f3)) (bts (dataB b.f1 b.f3))) ?_ (Ev.cbind _ (cmpInt_eq _ _) (Ev.bind' _ (cmpOr_eq _ (by simp)) (Ev.const ?_))))))
 ·unfold strings_Compare.f
  rw[compareBytes_eq]
  rfl
 ·rw[Option.some.injEq]
  have o3:∀x y z:Int,orI [orI [cmpN a.f0 b.f0,x],y,z]=if cmpN a.f0 b.f0=0 then(if x=0 then(if y=0 then z else y) else x) else cmpN a.f0 b.f0:=by
   intro x y z
   simp only[orI]
   by_cases hn:cmpN a.f0 b.f0=0
   ·by_cases hx:x=0
    ·by_cases hy:y=0
     ·by_cases hz:z=0<;>simp[hn,hx,hy,hz]
     ·simp[hn,hx,hy]
    ·simp[hn,hx]
   ·simp[hn]
  rw[o3]
  unfold cmpRec
  by_cases hn:cmpN a.f0 b.f0=0
  ·rw[if_pos hn,if_pos hn]
   by_cases ht:a.f1=b.f1
   ·rw[if_pos ht,if_pos (cmpI_zero.mpr ht)]
    unfold cmpB
    by_cases hd:bts (dataB a.f1 a.f3)=bts (dataB b.f1 b.f3)
    ·rw[if_pos hd,hd,bytesLess_irr]
     simp
    ·rw[if_neg hd]
     by_cases hl:Op.bytesLess (bts (dataB a.f1 a.f3)) (bts (dataB b.f1 b.f3))=true
     ·simp[hl,hd]
     ·simp[hl,hd]
   ·rw[if_neg ht,if_neg (fun h=>ht (cmpI_zero.mp h))]
    unfold cmpI
    by_cases hl:a.f1<b.f1
    ·simp[hl]
    ·have:a.f1 > b.f1:=by omega
     simp[hl,this]
  ·rw[if_neg hn,if_neg hn]
def riseFrom:aa_→List aa_→Bool
 | _,[]=>true
 | a,b::t=>okR b&&decide (cmpRec a b<0)&&riseFrom b t
def rises:List aa_→Bool
 | []=>true
 | a::t=>okR a&&riseFrom a t
def riseP (p:Option aa_) (l:List aa_):Bool:=match p with
 | none=>rises l
 | some a=>riseFrom a l
theorem getLast_mid {α:Type} {l p t:List α} {x:α} {d:α} (e:l=p++x::t) (hp:p≠[]):l.getD ((p.length:Int) - 1).toNat d=p.getLast hp:=by
 have h1:p=p.dropLast++[p.getLast hp]:=(List.dropLast_concat_getLast hp).symm
 have hl:0<p.length:=List.length_pos_iff.mpr hp
 have h2:((p.length:Int) - 1).toNat=p.dropLast.length:=by rw[List.length_dropLast];omega
 rw[h2]
 have e2:l=p.dropLast++(p.getLast hp::x::t):=by
  rw[e]
  conv=>lhs;rw[h1]
  simp only[List.append_assoc,List.singleton_append]
 rw[e2]
 simp[List.getD_eq_getElem?_getD]
theorem lastOpt_some {α:Type} {p:List α} (hp:p≠[]):p.getLast? = some (p.getLast hp):=List.getLast?_eq_some_getLast hp
theorem specList_eq (l:List aa_) (hl:l.length≤1048576) (hs:∀r∈l,szR r):Ev (fun k=>aY_.f k l) (rises l&&decide (l.length≤40)):=by
 unfold aY_.f
 refine Ev.eq_ (bw_ l (fun k (_:Unit) i=>aY_.l0 k l l (l.length:Int) i) (fun _ t=>riseP (l.take (l.length - t.length)).getLast? t&&decide (l.length≤40)) (fun p _=>∀r∈p,okR r=true) ?_ ?_ () (by simp)) (by simp[riseP])
 ·intro _ _
  apply Ev.succ
  simp only[aY_.l0]
  refine Ev.neg (by omega) (Ev.const ?_)
  rw[show decide ((l.length:Int)≤40)=decide (l.length≤40) from decide_eq_decide.mpr (by omega)]
  cases(List.take (l.length - ([]:List aa_).length) l).getLast?<;>simp[riseP,rises,riseFrom]
 ·intro p x t _ e hp ih
  have hm:=bE_ e
  have hx:=hs x (mem_mid e)
  have ht1:l.take (l.length - (x::t).length)=p:=by rw[e];simp
  have ht2:l.take (l.length - t.length)=p++[x]:=by
   have e3:l=(p++[x])++t:=by rw[e];simp
   have e4:l.length - t.length=(p++[x]).length:=by rw[hm.2.2];simp<;>omega
   rw[e4,e3,List.take_left']
   rfl
  rw[ht1]
  rw[ht2] at ih
  apply Ev.succ
  simp only[aY_.l0,a_,cb_ e]
  refine Ev.pos hm.1 (Ev.pos (by omega) (Ev.pos hm.1 (Ev.bind' (okR x) (specRec_eq _ _ _ _ hx.1 hx.2) ?_)))
  have hlast:(p++[x]).getLast? = some x:=by simp
  rw[hlast] at ih
  cases hk:okR x with
  | false =>
   refine Ev.a3_ (Ev.const ?_)
   cases p.getLast?<;>simp[riseP,rises,riseFrom,hk]
  | true =>
   refine Ev.a1_ ?_
   have hgo:=ih () (by intro r hr;rcases List.mem_append.mp hr with h|h;exact hp r h;simp only[List.mem_singleton] at h;rw[h];exact hk)
   by_cases hp0:p=[]
   ·subst hp0
    refine Ev.neg (by simp) ?_
    rw[w64 (by simp) (by simp)]
    refine Ev.eq_ hgo ?_
    simp[riseP,rises,hk]
   ·have hpl:0<p.length:=List.length_pos_iff.mpr hp0
    rw[w64 (i:=(p.length:Int) - 1) (by omega) (by omega),w64 (i:=(p.length:Int)+1) (by omega) (by omega),getLast_mid e hp0]
    have hlm:p.getLast hp0∈l:=by rw[e];exact List.mem_append_left _ (List.getLast_mem hp0)
    refine Ev.pos (by omega) (Ev.pos (by omega) (Ev.pos (by omega) (Ev.bind' _ (specCmpRec_eq _ x (hs _ hlm) hx (hp _ (List.getLast_mem hp0)) hk) ?_)))
    rw[lastOpt_some hp0]
    by_cases hc:cmpRec (p.getLast hp0) x≥0
    ·refine Ev.pos hc (Ev.const ?_)
     have:¬cmpRec (p.getLast hp0) x<0:=by omega
     simp[riseP,riseFrom,this]
    ·refine Ev.neg hc (Ev.eq_ hgo ?_)
     have:cmpRec (p.getLast hp0) x<0:=by omega
     simp[riseP,riseFrom,this,hk]
theorem areRising_eq (l:List aa_) (hl:l.length≤1048576) (hs:∀r∈l,szR r):Ev (fun k=>aH_.f k l) (rises l):=by
 unfold aH_.f
 refine Ev.eq_ (bw_ l (fun k (_:Unit) i=>aH_.l0 k l l (l.length:Int) i) (fun _ t=>riseP (l.take (l.length - t.length)).getLast? t) (fun p _=>∀r∈p,okR r=true) ?_ ?_ () (by simp)) (by simp[riseP])
 ·intro _ _
  apply Ev.succ
  simp only[aH_.l0]
  refine Ev.neg (by omega) (Ev.const ?_)
  cases(List.take (l.length - ([]:List aa_).length) l).getLast?<;>simp[riseP,rises,riseFrom]
 ·intro p x t _ e hp ih
  have hm:=bE_ e
  have hx:=hs x (mem_mid e)
  have ht1:l.take (l.length - (x::t).length)=p:=by rw[e];simp
  have ht2:l.take (l.length - t.length)=p++[x]:=by
   have e3:l=(p++[x])++t:=by rw[e];simp
   have e4:l.length - t.length=(p++[x]).length:=by rw[hm.2.2];simp<;>omega
   rw[e4,e3,List.take_left']
   rfl
  rw[ht1]
  rw[ht2] at ih
  apply Ev.succ
  simp only[aH_.l0,a_,cb_ e]
  refine Ev.pos hm.1 (Ev.pos (by omega) (Ev.pos hm.1 (Ev.bind' (okR x) (implRec_eq _ _ _ _ hx.1 hx.2) ?_)))
  have hlast:(p++[x]).getLast? = some x:=by simp
  rw[hlast] at ih
  cases hk:okR x with
  | false =>
   refine Ev.a3_ (Ev.const ?_)
   cases p.getLast?<;>simp[riseP,rises,riseFrom,hk]
  | true =>
   refine Ev.a1_ ?_
   have hgo:=ih () (by intro r hr;rcases List.mem_append.mp hr with h|h;exact hp r h;simp only[List.mem_singleton] at h;rw[h];exact hk)
   by_cases hp0:p=[]
   ·subst hp0
    refine Ev.neg (by simp) ?_
    rw[w64 (by simp) (by simp)]
    refine Ev.eq_ hgo ?_
    simp[riseP,rises,hk]
   ·have hpl:0<p.length:=List.length_pos_iff.mpr hp0
    rw[w64 (i:=(p.length:Int) - 1) (by omega) (by omega),w64 (i:=(p.length:Int)+1) (by omega) (by omega),getLast_mid e hp0]
    have hlm:p.getLast hp0∈l:=by rw[e];exact List.mem_append_left _ (List.getLast_mem hp0)
    refine Ev.pos (by omega) (Ev.pos (by omega) (Ev.pos (by omega) (Ev.bind' _ (implCmpRec_eq _ x (hs _ hlm) hx (hp _ (List.getLast_mem hp0)) hk) ?_)))
    rw[lastOpt_some hp0]
    by_cases hc:cmpRec (p.getLast hp0) x≥0
    ·refine Ev.pos hc (Ev.const ?_)
     have:¬cmpRec (p.getLast hp0) x<0:=by omega
     simp[riseP,riseFrom,this]
    ·refine Ev.neg hc (Ev.eq_ hgo ?_)
     have:cmpRec (p.getLast hp0) x<0:=by omega
     simp[riseP,riseFrom,this,hk]
end Go.Proofs.YthohohfmdieohaaGreatDoor.PL
end
section
set_option linter.unusedVariables false
set_option linter.unusedSimpArgs false
namespace Go.Proofs.YthohohfmdieohaaGreatDoor.PL
open Go.RowKit Go.Proofs.YthohohfmdieohaaGreatDoor.Pp Go.Proofs.YthohohfmdieohaaGreatDoor.PB Go.Proofs.YthohohfmdieohaaGreatDoorW.PrintWords Go.Proofs.YthohohfmdieohaaGreatDoorW.PrintLast
def cRec (x:aE_):aa_:=⟨x.f0,x.f1,x.f2,x.f3⟩
theorem szRecordS_eq (l:List aE_) (h:l.length≤maxLen∧∀x∈l,cm_ x) (a:Int) (h0:0≤a) (h1:a≤1048576):Szd (fun k=>bc_.f k l a) a (l.length≤1048576∧∀x∈l,x.f0.size≤1048576∧x.f3.size≤1048576):=by
 have hm:maxLen=9223372036854775807:=rfl
 unfold bc_.f
 by_cases hl:l.length≤1048576
 ·refine Szd.size _ (by omega) h0 h1 (fun a' e ha hb=>?_)
  rw[e]
  refine Szd.list l hl (fun k a i=>bc_.l0 k l a i) (fun x=>x.f0.size≤1048576∧x.f3.size≤1048576) ?_ ?_ a' ha hb
  ·intro a ha hb
   refine⟨a,Ev.succ ?_,Or.inr ⟨ha,Int.le_refl _,trivial⟩⟩
   simp only[bc_.l0]
   exact Ev.neg (by omega) (Ev.const rfl)
  ·intro p x t a e ha hb _ C hC
   have hm2:=bE_ e
   have hx:=h.2 x (mem_mid e)
   have hel:Szd (fun _:Nat=>laws_szRecord.f x.f0 x.f1 x.f2 x.f3 a) a (x.f0.size≤1048576∧x.f3.size≤1048576):=by
    unfold laws_szRecord.f
    refine(Szd.size _ (by have:=hx.1;omega) ha hb (fun a' e2 ha' hb'=>?_))
    rw[e2]
    exact(Szd.size _ (by have:=hx.2.2.2;omega) ha' hb' (fun a'' e3 ha'' hb''=>by rw[e3];exact Szd.end_ ha'')).mono (fun h=>h.1)
   obtain⟨r,hr,hh⟩:=Szd.cbind (g:=fun k t=>bc_.l0 k l t ((p.length:Int)+1)) hel hb (fun r h3 h4=>hC r h3 h4)
   refine⟨r,Ev.succ ?_,hh⟩
   simp only[bc_.l0,aX_,cb_ e]
   rw[w64 (i:=(p.length:Int)+1) (by omega) (by omega)]
   exact Ev.pos hm2.1 (Ev.pos (by omega) hr)
 ·have:=h.1
  refine⟨-1,Ev.pos ?_ (Ev.const rfl),Or.inl (by omega)⟩
  rw[w64 (by omega) (by omega)]
  omega
theorem toRecordS_eq (l:List aE_) (hl:l.length≤1048576):Ev (fun k=>bf_.f k l) (l.map cRec):=by
 unfold bf_.f
 refine Ev.pos (by omega) (Ev.pos (by simp;omega) ?_)
 refine to_list l cRec (fun k s i=>bf_.l0 k l s i) ?_ ?_ _ (by simp)
 ·intro s
  apply Ev.succ
  simp only[bf_.l0]
  exact Ev.neg (by omega) (Ev.const rfl)
 ·intro p x t s r e hs h
  have hm:=bE_ e
  apply Ev.succ
  simp only[bf_.l0,aX_,cb_ e]
  rw[w64 (i:=(p.length:Int)+1) (by omega) (by omega)]
  exact Ev.pos hm.1 (Ev.pos (by omega) (Ev.cbind _ rfl (Ev.pos (by omega) h)))
theorem eqRecord_eq (a:ByteArray) (b c:Int) (d:ByteArray):laws_eqRecord.f a b c d a b c d=some true:=by
 unfold laws_eqRecord.f
 simp
theorem eqRecordS_eq (l:List aa_) (hl:l.length≤1048576):Ev (fun k=>aM_.f k l l) true:=by
 unfold aM_.f
 refine Ev.pos rfl (eq_list l (fun k i=>aM_.l0 k l l i) ?_ ?_)
 ·apply Ev.succ
  simp only[aM_.l0]
  exact Ev.neg (by omega) (Ev.const rfl)
 ·intro p x t e h
  have hm:=bE_ e
  apply Ev.succ
  simp only[aM_.l0]
  rw[w64 (i:=(p.length:Int)+1) (by omega) (by omega)]
  exact Ev.pos hm.1 (Ev.pos (by omega) (Ev.pos hm.1 (Ev.cbind _ (eqRecord_eq _ _ _ _) (Ev.a1_ h))))
end Go.Proofs.YthohohfmdieohaaGreatDoor.PL
end
section
set_option linter.unusedVariables false
set_option linter.unusedSimpArgs false
namespace Go.Proofs.YthohohfmdieohaaGreatDoor.PL
open Go.RowKit Go.Proofs.YthohohfmdieohaaGreatDoor.Pp Go.Proofs.YthohohfmdieohaaGreatDoor.PB Go.Proofs.YthohohfmdieohaaGreatDoorW.PrintWords Go.Proofs.YthohohfmdieohaaGreatDoorW.PrintLast
theorem al_.idx (l0:List (aa_)) (a1_0:Int) (a1_1:Int) (l1_2:List (aa_)) (l1_3:List (aa_)) (q:(aa_)→Bool) (hl:l0.length≤1048576) (h:∀x∈l0,Ev (fun k=>ck_.f k (x.f0) (x.f1) (x.f2) (x.f3) a1_0 a1_1 l1_2 l1_3) (q x)):Ev (fun k=>al_.f k l0 a1_0 a1_1 l1_2 l1_3) (idxP q l0):=by
 unfold al_.f
 refine Ev.eq_ (bw_ l0 (fun k (_:Nat) i=>al_.l0 k l0 (l0.length:Int) i a1_0 a1_1 l1_2 l1_3) (fun n t=>if 0≤idxP q t then(n:Int)+idxP q t else -1) (fun p n=>n=p.length) ?_ ?_ 0 rfl) ?_
 ·intro n hn
  apply Ev.succ
  simp only[al_.l0]
  exact Ev.neg (by omega) (Ev.const (by simp[idxP]))
 ·intro p x t n e hn ih
  have hm:=bE_ e
  have hx:=h x (mem_mid e)
  apply Ev.succ
  simp only[al_.l0,a_,cb_ e]
  refine Ev.pos hm.1 (Ev.pos (by omega) (Ev.pos hm.1 (Ev.bind' _ hx ?_)))
  have hq:idxP q (x::t)=(if q x then 0 else if 0≤idxP q t then idxP q t+1 else -1):=rfl
  rw[hq]
  cases q x with
  | true=>exact Ev.a1_ (Ev.const (by simp[hn]))
  | false =>
   refine Ev.a3_ ?_
   rw[w64 (by omega) (by omega)]
   refine Ev.eq_ (ih (n+1) (by simp[hn])) ?_
   by_cases h2:0≤idxP q t
   ·simp[h2];omega
   ·simp[h2]
 ·by_cases h2:0≤idxP q l0
  ·simp[h2]
  ·rw[if_neg h2]
   exact(idxP_neg q l0 h2).symm
theorem aI_.any (l0:List (aa_)) (a1_0:Int) (a1_1:Int) (l1_2:List (aa_)) (l1_3:List (aa_)) (q:(aa_)→Bool) (hl:l0.length≤1048576) (h:∀x∈l0,Ev (fun k=>ck_.f k (x.f0) (x.f1) (x.f2) (x.f3) a1_0 a1_1 l1_2 l1_3) (q x)):Ev (fun k=>aI_.f k l0 a1_0 a1_1 l1_2 l1_3) (l0.any q):=by
 unfold aI_.f
 refine Ev.bind' _ (al_.idx l0 a1_0 a1_1 l1_2 l1_3 q hl h) (Ev.const ?_)
 rw[idxP_nonneg]
end Go.Proofs.YthohohfmdieohaaGreatDoor.PL
end
section
set_option linter.unusedVariables false
set_option linter.unusedSimpArgs false
namespace Go.Proofs.YthohohfmdieohaaGreatDoor.PL
open Go.RowKit Go.Proofs.YthohohfmdieohaaGreatDoor.Pp Go.Proofs.YthohohfmdieohaaGreatDoor.PB Go.Proofs.YthohohfmdieohaaGreatDoorW.PrintWords Go.Proofs.YthohohfmdieohaaGreatDoorW.PrintLast
def eqR (x y:aa_):Bool:=decide (bts x.f0=bts y.f0)&&decide (x.f1=y.f1)&&decide (x.f2=y.f2)&&decide (bts x.f3=bts y.f3)
theorem beq_dec {α:Type} [BEq α] [LawfulBEq α] [DecidableEq α] (a b:α):(a==b)=decide (a=b):=by
 by_cases h:a=b<;>simp[h]
theorem eqR_spec (x y:aa_):((x.f0.toList)==y.f0.toList&&(x.f1==y.f1&&(x.f2==y.f2&&(x.f3.toList==y.f3.toList))))=eqR x y:=by
 unfold eqR
 simp only[ca_,beq_dec,Bool.and_assoc]
theorem eqR_symm (x y:aa_):eqR x y=eqR y x:=by
 unfold eqR
 simp only[eq_comm]
def hasR (l:List aa_) (r:aa_):Bool:=l.any (fun x=>eqR x r)
theorem specHas_eq (l:List aa_) (r:aa_) (hl:l.length≤1048576):Ev (fun k=>bJ_.f k l r.f0 r.f1 r.f2 r.f3) (hasR l r):=by
 unfold bJ_.f hasR
 refine Ev.eq_ (bw_ l (fun k (_:Unit) i=>bJ_.l0 k l (l.length:Int) i r.f0 r.f1 r.f2 r.f3) (fun _ t=>t.any (fun x=>eqR x r)) (fun _ _=>True) ?_ ?_ () trivial) rfl
 ·intro _ _
  apply Ev.succ
  simp only[bJ_.l0]
  exact Ev.neg (by omega) (Ev.const rfl)
 ·intro p x t _ e _ ih
  have hm:=bE_ e
  apply Ev.succ
  simp only[bJ_.l0,a_,cb_ e,eqR_spec]
  refine Ev.pos hm.1 (Ev.pos (by omega) (Ev.pos hm.1 ?_))
  rw[w64 (i:=(p.length:Int)+1) (by omega) (by omega)]
  cases hq:eqR x r with
  | true=>exact Ev.a1_ (Ev.const (by simp[hq]))
  | false=>exact Ev.a3_ (Ev.eq_ (ih () trivial) (by simp[hq]))
theorem index_eq (l:List aa_) (r:aa_) (hl:l.length≤1048576):Ev (fun k=>aB_.f k l r.f0 r.f1 r.f2 r.f3) (idxP (fun x=>eqR r x) l):=by
 unfold aB_.f
 refine Ev.eq_ (bw_ l (fun k (_:Nat) i=>aB_.l0 k l (l.length:Int) i r.f0 r.f1 r.f2 r.f3) (fun n t=>if 0≤idxP (fun x=>eqR r x) t then(n:Int)+idxP (fun x=>eqR r x) t else -1) (fun p n=>n=p.length) ?_ ?_ 0 rfl) ?_
 ·intro n hn
  apply Ev.succ
  simp only[aB_.l0]
  exact Ev.neg (by omega) (Ev.const (by simp[idxP]))
 ·intro p x t n e hn ih
  have hm:=bE_ e
  apply Ev.succ
  simp only[aB_.l0,a_,cb_ e,eqR_spec]
  refine Ev.pos hm.1 (Ev.pos (by omega) (Ev.pos hm.1 ?_))
  have hq:idxP (fun x=>eqR r x) (x::t)=(if eqR r x then 0 else if 0≤idxP (fun x=>eqR r x) t then idxP (fun x=>eqR r x) t+1 else -1):=rfl
  rw[hq]
  cases eqR r x with
  | true=>exact Ev.a1_ (Ev.const (by simp[hn]))
  | false =>
   refine Ev.a3_ ?_
   rw[w64 (by omega) (by omega)]
   refine Ev.eq_ (ih (n+1) (by simp[hn])) ?_
   by_cases h2:0≤idxP (fun x=>eqR r x) t
   ·simp[h2];omega
   ·simp[h2]
 ·by_cases h2:0≤idxP (fun x=>eqR r x) l
  ·simp[h2]
  ·rw[if_neg h2]
   exact(idxP_neg _ l h2).symm
theorem contains_eq (l:List aa_) (r:aa_) (hl:l.length≤1048576):Ev (fun k=>a0_.f k l r.f0 r.f1 r.f2 r.f3) (hasR l r):=by
 unfold a0_.f
 refine Ev.bind' _ (index_eq l r hl) (Ev.const ?_)
 rw[idxP_nonneg]
 unfold hasR
 congr 2
 funext x
 exact eqR_symm r x
def cntOk (n:Int):Bool:=inR n 0 1152921504606846976
def goodD (a b:Int) (dels adds:List aa_):Bool :=
 cntOk a&&cntOk b && !decide (a=b)&&decide (dels.length≤40)&&decide (adds.length≤40)&&rises dels&&rises adds && !dels.any (hasR adds)
theorem counter_eq (n:Int):bx_.f n=some (cntOk n):=by
 unfold bx_.f
 rw[l1In_eq]
 rfl
theorem isCounter_eq (n:Int):bk_.f n=some (cntOk n):=by
 unfold bk_.f
 rw[within_eq]
 rfl
theorem specGoodDiff_eq (a b:Int) (dels adds:List aa_) (h1:dels.length≤1048576) (h2:adds.length≤1048576) (s1:∀r∈dels,szR r) (s2:∀r∈adds,szR r):Ev (fun k=>aF_.f k a b dels adds) (goodD a b dels adds):=by
 have hbad:goodD a b dels adds=false→Ev (fun k=>aF_.j0 k true a b dels adds) (goodD a b dels adds):=by
  intro h
  apply Ev.succ
  simp only[aF_.j0]
  exact Ev.pos (by first|rfl|trivial) (Ev.const (by rw[h]))
 unfold aF_.f
 refine Ev.cbind _ (counter_eq a) ?_
 cases ha:cntOk a with
 | false=>exact Ev.a3_ (hbad (by unfold goodD;simp[ha]))
 | true =>
  refine Ev.a1_ (Ev.cbind _ (counter_eq b) ?_)
  cases hb:cntOk b with
  | false=>exact Ev.a3_ (hbad (by unfold goodD;simp[hb]))
  | true =>
   refine Ev.a1_ ?_
   by_cases hab:a=b
   ·exact Ev.pos hab (hbad (by unfold goodD;simp[hab]))
   ·refine Ev.neg hab (Ev.bind' _ (specList_eq dels h1 s1) ?_)
    cases hd:rises dels&&decide (dels.length≤40) with
    | false =>
     refine Ev.a3_ (hbad ?_)
     unfold goodD
     cases h3:rises dels<;>simp_all<;>(intros;omega)
    | true =>
     refine Ev.a1_ (Ev.bind' _ (specList_eq adds h2 s2) ?_)
     simp only[Bool.and_eq_true,decide_eq_true_eq] at hd
     cases hq:rises adds&&decide (adds.length≤40) with
     | false =>
      refine Ev.eq_ (hbad ?_) rfl
      unfold goodD
      cases h3:rises adds<;>simp_all<;>(intros;omega)
     | true =>
      simp only[Bool.and_eq_true,decide_eq_true_eq] at hq
      have hg:goodD a b dels adds = !dels.any (hasR adds):=by
       unfold goodD
       simp[ha,hb,hab,hd,hq]
      rw[hg]
      apply Ev.succ
      simp only[aF_.j0]
      refine Ev.neg (by simp) ?_
      refine Ev.eq_ (bw_ dels (fun k (_:Unit) i=>aF_.l0 k dels (dels.length:Int) i a b dels adds) (fun _ t => !t.any (hasR adds)) (fun _ _=>True) ?_ ?_ () trivial) rfl
      ·intro _ _
       apply Ev.succ
       simp only[aF_.l0]
       exact Ev.neg (by omega) (Ev.const rfl)
      ·intro p x t _ e _ ih
       have hm:=bE_ e
       apply Ev.succ
       simp only[aF_.l0,a_,cb_ e]
       refine Ev.pos hm.1 (Ev.pos (by omega) (Ev.pos hm.1 (Ev.bind' _ (specHas_eq adds x h2) ?_)))
       rw[w64 (i:=(p.length:Int)+1) (by omega) (by omega)]
       cases hx:hasR adds x with
       | true=>exact Ev.a1_ (Ev.const (by simp[hx]))
       | false=>exact Ev.a3_ (Ev.eq_ (ih () trivial) (by simp[hx]))
theorem implGoodDiff_eq (a b:Int) (dels adds:List aa_) (h1:dels.length≤1048576) (h2:adds.length≤1048576) (s1:∀r∈dels,szR r) (s2:∀r∈adds,szR r):Ev (fun k=>bA_.f k a b dels adds) (goodD a b dels adds):=by
 unfold bA_.f
 have hd:Ev (fun k=>impl_isDiff.f k a b dels adds) (cntOk a&&cntOk b && !decide (a=b)&&decide (dels.length≤40)&&decide (adds.length≤40)&&rises dels&&rises adds):=by
  unfold impl_isDiff.f
  refine Ev.cbind _ (isCounter_eq a) ?_
  cases ha:cntOk a with
  | false=>exact Ev.a3_ (Ev.const (by simp))
  | true =>
   refine Ev.a1_ (Ev.cbind _ (isCounter_eq b) ?_)
   cases hb:cntOk b with
   | false=>exact Ev.a3_ (Ev.const (by simp))
   | true =>
    refine Ev.a1_ ?_
    by_cases hab:a=b
    ·exact Ev.pos hab (Ev.const (by simp[hab]))
    ·refine Ev.neg hab ?_
     by_cases h40:(dels.length:Int)≤40
     ·refine Ev.pos h40 ?_
      have h40':dels.length≤40:=by omega
      by_cases h41:(adds.length:Int)≤40
      ·refine Ev.pos h41 (Ev.bind' _ (areRising_eq dels h1 s1) ?_)
       have h41':adds.length≤40:=by omega
       cases hr:rises dels with
       | false=>exact Ev.a3_ (Ev.const (by simp))
       | true=>exact Ev.a1_ (Ev.bind' _ (areRising_eq adds h2 s2) (Ev.const (by simp[hab,h40',h41'])))
      ·have h41':¬adds.length≤40:=by omega
       exact Ev.neg h41 (Ev.const (by simp[h41']))
     ·have h40':¬dels.length≤40:=by omega
      exact Ev.neg h40 (Ev.const (by simp[h40']))
 refine Ev.bind' _ hd ?_
 unfold goodD
 cases hg:(cntOk a&&cntOk b && !decide (a=b)&&decide (dels.length≤40)&&decide (adds.length≤40)&&rises dels&&rises adds) with
 | false=>exact Ev.a3_ (Ev.const (by simp))
 | true =>
  refine Ev.a1_ (Ev.bind' _ (aI_.any dels a b dels adds (hasR adds) h1 (fun x hx=>?_)) (Ev.const (by simp)))
  unfold ck_.f
  exact Ev.bind' _ (contains_eq adds x h2) (Ev.const rfl)
theorem toDiff_eq (a b:Int) (l m:List aE_) (hl:l.length≤1048576) (hm:m.length≤1048576):Ev (fun k=>a9_.f k a b l m) (a,b,l.map cRec,m.map cRec):=by
 unfold a9_.f
 exact Ev.bind' _ (toRecordS_eq l hl) (Ev.bind' _ (toRecordS_eq m hm) (Ev.const rfl))
theorem eqDiff_eq (a b:Int) (l m:List aa_) (hl:l.length≤1048576) (hm:m.length≤1048576):Ev (fun k=>bC_.f k a b l m a b l m) true:=by
 unfold bC_.f
 exact Ev.pos rfl (Ev.pos rfl (Ev.bind' _ (eqRecordS_eq l hl) (Ev.a1_ (Ev.bind' _ (eqRecordS_eq m hm) (Ev.a1_ (Ev.const rfl))))))
theorem szDiff_eq (a b:Int) (l m:List aE_) (hl:l.length≤maxLen∧∀x∈l,cm_ x) (hm:m.length≤maxLen∧∀x∈m,cm_ x) (n:Int) (h0:0≤n) (h1:n≤1048576) :
  Szd (fun k=>b7_.f k a b l m n) n ((l.length≤1048576∧∀x∈l,x.f0.size≤1048576∧x.f3.size≤1048576)∧(m.length≤1048576∧∀x∈m,x.f0.size≤1048576∧x.f3.size≤1048576)):=by
 unfold b7_.f
 refine(Szd.bind (szRecordS_eq l hl n h0 h1) h1 (fun r h2 h3=>?_))
 exact(Szd.bind (szRecordS_eq m hm r h2 h3) h3 (fun q h4 h5=>Szd.end_ h4)).mono (fun h=>h.1)
theorem szR_map {l:List aE_} (h:∀x∈l,x.f0.size≤1048576∧x.f3.size≤1048576):∀r∈l.map cRec,szR r:=by
 intro r hr
 obtain⟨x,hx,rfl⟩:=List.mem_map.mp hr
 exact h x hx
end Go.Proofs.YthohohfmdieohaaGreatDoor.PL
end
section
set_option linter.unusedVariables false
set_option linter.unusedSimpArgs false
namespace Go.Proofs.YthohohfmdieohaaGreatDoor.PL
open Go.RowKit Go.Proofs.YthohohfmdieohaaGreatDoor.Pp Go.Proofs.YthohohfmdieohaaGreatDoor.PB Go.Proofs.YthohohfmdieohaaGreatDoorW.PrintWords Go.Proofs.YthohohfmdieohaaGreatDoorW.PrintLast
structure Cmp {α:Type} (c:α→α→Int):Prop where
 anti:∀a b,c b a = - c a b
 trans:∀a b d,c a b≤0→c b d≤0→c a d≤0
theorem Cmp.self {α:Type} {c:α→α→Int} (h:Cmp c) (a:α):c a a=0:=by
 have:=h.anti a a
 omega
theorem Cmp.lt_le {α:Type} {c:α→α→Int} (h:Cmp c) {a b d:α} (h1:c a b<0) (h2:c b d≤0):c a d<0:=by
 have h3:=h.trans a b d (by omega) h2
 by_cases h4:c a d=0
 ·have h5:=h.anti a d
  have h6:=h.trans b d a h2 (by omega)
  have h7:=h.anti a b
  omega
 ·omega
theorem Cmp.le_lt {α:Type} {c:α→α→Int} (h:Cmp c) {a b d:α} (h1:c a b≤0) (h2:c b d<0):c a d<0:=by
 have h3:=h.trans a b d h1 (by omega)
 by_cases h4:c a d=0
 ·have h5:=h.anti a d
  have h6:=h.trans d a b (by omega) h1
  have h7:=h.anti b d
  omega
 ·omega
theorem Cmp.lt_trans {α:Type} {c:α→α→Int} (h:Cmp c) {a b d:α} (h1:c a b<0) (h2:c b d<0):c a d<0:=h.lt_le h1 (by omega)
theorem Cmp.eq_trans {α:Type} {c:α→α→Int} (h:Cmp c) {a b d:α} (h1:c a b=0) (h2:c b d=0):c a d=0:=by
 have h3:=h.trans a b d (by omega) (by omega)
 have h4:=h.anti a b
 have h5:=h.anti b d
 have h6:=h.trans d b a (by omega) (by omega)
 have h7:=h.anti a d
 omega
theorem Cmp.pull {α β:Type} {c:α→α→Int} (h:Cmp c) (f:β→α):Cmp (fun a b=>c (f a) (f b)):=⟨fun a b=>h.anti _ _,fun a b d=>h.trans _ _ _⟩
theorem Cmp.lex {α:Type} {c c2:α→α→Int} (h:Cmp c) (h2:Cmp c2):Cmp (fun a b=>if c a b=0 then c2 a b else c a b):=by
 refine⟨fun a b=>?_,fun a b d=>?_⟩
 ·have h3:=h.anti a b
  have h4:=h2.anti a b
  show(if c b a=0 then c2 b a else c b a) = - (if c a b=0 then c2 a b else c a b)
  by_cases e:c a b=0
  ·rw[if_pos e,if_pos (by omega)];omega
  ·rw[if_neg e,if_neg (by omega)];omega
 ·show(if c a b=0 then c2 a b else c a b)≤0→(if c b d=0 then c2 b d else c b d)≤0→(if c a d=0 then c2 a d else c a d)≤0
  intro x y
  by_cases e1:c a b=0
  ·rw[if_pos e1] at x
   by_cases e2:c b d=0
   ·rw[if_pos e2] at y
    rw[if_pos (h.eq_trans e1 e2)]
    exact h2.trans a b d x y
   ·rw[if_neg e2] at y
    have:=h.le_lt (a:=a) (b:=b) (d:=d) (by omega) (by omega)
    rw[if_neg (by omega)]
    omega
  ·rw[if_neg e1] at x
   have hle:c b d≤0:=by
    by_cases e2:c b d=0
    ·omega
    ·rw[if_neg e2] at y;omega
   have:=h.lt_le (a:=a) (b:=b) (d:=d) (by omega) hle
   rw[if_neg (by omega)]
   omega
def lexL {α:Type} (c:α→α→Int):List α→List α→Int
 | [],[]=>0
 | [],_::_ => -1
 | _::_,[]=>1
 | a::s,b::t=>if c a b=0 then lexL c s t else c a b
theorem Cmp.lexL {α:Type} {c:α→α→Int} (h:Cmp c):Cmp (PL.lexL c):=by
 refine⟨?_,?_⟩
 ·intro a
  induction a with
  | nil=>intro b;cases b<;>simp[PL.lexL]
  | cons x s ih =>
   intro b
   cases b with
   | nil=>simp[PL.lexL]
   | cons y t =>
    have h3:=h.anti x y
    have h4:=ih t
    simp only[PL.lexL]
    by_cases e:c x y=0
    ·rw[if_pos e,if_pos (by omega)];omega
    ·rw[if_neg e,if_neg (by omega)];omega
 ·intro a
  induction a with
  | nil=>intro b d _ _;cases d<;>simp[PL.lexL]
  | cons x s ih =>
   intro b d
   cases b with
   | nil=>intro h1;simp[PL.lexL] at h1
   | cons y t =>
    cases d with
    | nil=>intro _ h2;simp[PL.lexL] at h2
    | cons z u =>
     simp only[PL.lexL]
     intro p q
     by_cases e1:c x y=0
     ·rw[if_pos e1] at p
      by_cases e2:c y z=0
      ·rw[if_pos e2] at q
       rw[if_pos (h.eq_trans e1 e2)]
       exact ih t u p q
      ·rw[if_neg e2] at q
       have:=h.le_lt (a:=x) (b:=y) (d:=z) (by omega) (by omega)
       rw[if_neg (by omega)]
       omega
     ·rw[if_neg e1] at p
      have hle:c y z≤0:=by
       by_cases e2:c y z=0
       ·omega
       ·rw[if_neg e2] at q;omega
      have:=h.lt_le (a:=x) (b:=y) (d:=z) (by omega) hle
      rw[if_neg (by omega)]
      omega
theorem lexL_zero {α:Type} {c:α→α→Int} (h:∀a b,c a b=0→a=b):∀s t:List α,lexL c s t=0→s=t
 | [],[],_=>rfl
 | [],_::_,h1=>by simp[lexL] at h1
 | _::_,[],h1=>by simp[lexL] at h1
 | a::s,b::t,h1=>by
  simp only[lexL] at h1
  by_cases e:c a b=0
  ·rw[if_pos e] at h1
   rw[h a b e,lexL_zero h s t h1]
  ·rw[if_neg e] at h1
   exact absurd h1 e
theorem cmpI_cmp:Cmp cmpI:=by
 refine⟨fun a b=>?_,fun a b d=>?_⟩
 ·unfold cmpI
  by_cases h1:a<b
  ·rw[if_neg (by omega),if_pos (by omega),if_pos h1];rfl
  ·by_cases h2:a > b
   ·rw[if_pos (by omega),if_neg h1,if_pos h2]
   ·rw[if_neg (by omega),if_neg (by omega),if_neg h1,if_neg h2];rfl
 ·unfold cmpI
  intro h1 h2
  by_cases e1:a<d
  ·rw[if_pos e1];omega
  ·rw[if_neg e1]
   by_cases e2:a > d
   ·exfalso
    by_cases f1:a<b
    ·have f2:¬b<d:=by omega
     rw[if_neg f2,if_pos (by omega)] at h2
     omega
    ·rw[if_neg f1] at h1
     by_cases f3:a > b
     ·rw[if_pos f3] at h1;omega
     ·have f2:¬b<d:=by omega
      rw[if_neg f2,if_pos (by omega)] at h2
      omega
   ·rw[if_neg e2];omega
def cmpU (a b:UInt8):Int:=cmpI (a.toNat:Int) (b.toNat:Int)
theorem cmpU_cmp:Cmp cmpU:=cmpI_cmp.pull (fun b:UInt8=>(b.toNat:Int))
theorem cmpU_zero (a b:UInt8) (h:cmpU a b=0):a=b:=by
 have:=cmpI_zero.mp h
 exact UInt8.toNat_inj.mp (by omega)
theorem cmpB_lex:∀a b:List UInt8,cmpB a b=lexL cmpU a b
 | [],[]=>by simp[cmpB,lexL,Op.bytesLess]
 | [],_::_=>by simp[cmpB,lexL,Op.bytesLess]
 | _::_,[]=>by simp[cmpB,lexL,Op.bytesLess]
 | x::s,y::t=>by
  have ih:=cmpB_lex s t
  simp only[lexL]
  rw[←ih]
  have hL:Op.bytesLess (x::s) (y::t)=(decide (x<y)||(x==y&&Op.bytesLess s t)):=rfl
  unfold cmpB
  rw[hL]
  by_cases h1:x=y
  ·subst h1
   have h0:cmpU x x=0:=cmpU_cmp.self x
   rw[if_pos h0]
   have hx:¬x<x:=UInt8.lt_irrefl x
   simp[hx]
  ·have h0:cmpU x y≠0:=fun h=>h1 (cmpU_zero x y h)
   rw[if_neg h0]
   have hb:(x==y)=false:=beq_eq_false_iff_ne.mpr h1
   have hn:x.toNat≠y.toNat:=fun h=>h1 (UInt8.toNat_inj.mp h)
   rw[hb,Bool.false_and,Bool.or_false]
   by_cases h2:x<y
   ·have h3:x.toNat<y.toNat:=UInt8.lt_iff_toNat_lt.mp h2
    unfold cmpU cmpI
    rw[if_pos (decide_eq_true h2),if_pos (by omega)]
   ·have h3:¬x.toNat<y.toNat:=fun h=>h2 (UInt8.lt_iff_toNat_lt.mpr h)
    unfold cmpU cmpI
    rw[if_neg (by simp[h2]),if_neg (by simp[h1]),if_neg (by omega),if_pos (by omega)]
theorem cmpB_cmp:Cmp cmpB:=by
 have:cmpB=lexL cmpU:=funext fun a=>funext fun b=>cmpB_lex a b
 rw[this]
 exact cmpU_cmp.lexL
theorem cmpB_zero (a b:List UInt8) (h:cmpB a b=0):a=b:=by
 rw[cmpB_lex] at h
 exact lexL_zero cmpU_zero a b h
theorem cmpR_lex:∀a b:List ByteArray,cmpR a b=lexL (fun x y=>cmpB (bts x) (bts y)) a b
 | [],[]=>rfl
 | [],_::_=>rfl
 | _::_,[]=>rfl
 | x::s,y::t=>by
  have ih:=cmpR_lex s t
  simp only[lexL,cmpR]
  rw[←ih]
  unfold ltS cmpB
  by_cases h1:Op.bytesLess (bts x) (bts y)=true
  ·rw[if_pos h1,if_pos h1,if_neg (by omega)]
  ·rw[if_neg h1,if_neg h1]
   by_cases h2:bts x=bts y
   ·rw[if_pos h2,if_pos h2,if_pos rfl]
   ·rw[if_neg h2,if_neg h2,if_neg (by omega)]
theorem cmpR_cmp:Cmp cmpR:=by
 have:cmpR=lexL (fun x y=>cmpB (bts x) (bts y)):=funext fun a=>funext fun b=>cmpR_lex a b
 rw[this]
 exact(cmpB_cmp.pull bts).lexL
theorem cmpR_zero (a b:List ByteArray) (h:cmpR a b=0):a=b:=by
 rw[cmpR_lex] at h
 exact lexL_zero (fun x y e=>bts_inj (cmpB_zero _ _ e)) a b h
theorem cmpN_cmp:Cmp cmpN:=cmpR_cmp.pull (fun s:ByteArray=>(labels s).reverse)
def joinD (c:UInt8):List ByteArray→List UInt8
 | []=>[]
 | [x]=>bts x
 | x::y::t=>bts x++c::joinD c (y::t)
theorem splitC_cons (c:UInt8):∀(l cur:List UInt8),∃x t,splitC c cur l=x::t
 | [],cur=>⟨_,_,rfl⟩
 | b::l,cur=>by
  unfold splitC
  split
  ·exact⟨_,_,rfl⟩
  ·exact splitC_cons c l _
theorem joinD_split (c:UInt8):∀(l cur:List UInt8),joinD c (splitC c cur l)=cur++l
 | [],cur=>by simp[splitC,joinD,b9_]
 | b::l,cur=>by
  unfold splitC
  by_cases h:b=c
  ·rw[if_pos h]
   obtain⟨x,t,e⟩:=splitC_cons c l []
   have:=joinD_split c l []
   rw[e] at this ⊢
   simp only[joinD,b9_]
   rw[this,h]
   simp
  ·rw[if_neg h,joinD_split c l (cur++[b])]
   simp
theorem labels_join (s:ByteArray):joinD 46 (labels s)=bts s:=by
 unfold labels
 split
 ·rename_i h;rw[h];rfl
 ·rw[joinD_split];rfl
theorem labels_inj {a b:ByteArray} (h:labels a=labels b):a=b:=by
 apply bts_inj
 rw[←labels_join a,←labels_join b,h]
theorem cmpN_zero {a b:ByteArray}:cmpN a b=0↔a=b:=by
 constructor
 ·intro h
  have:=cmpR_zero _ _ h
  exact labels_inj (List.reverse_inj.mp this)
 ·intro h
  rw[h]
  exact cmpN_cmp.self b
theorem cmpN_bts {a b:ByteArray}:cmpN a b=0↔bts a=bts b:=cmpN_zero.trans ⟨fun h=>by rw[h],bts_inj⟩
def cmpK (a b:aa_):Int:=if cmpN a.f0 b.f0=0 then cmpI a.f1 b.f1 else cmpN a.f0 b.f0
theorem cmpK_cmp:Cmp cmpK:=(cmpN_cmp.pull (fun r:aa_=>r.f0)).lex (cmpI_cmp.pull (fun r:aa_=>r.f1))
theorem cmpK_zero {a b:aa_}:cmpK a b=0↔bts a.f0=bts b.f0∧a.f1=b.f1:=by
 unfold cmpK
 by_cases h:cmpN a.f0 b.f0=0
 ·rw[if_pos h,cmpI_zero]
  exact⟨fun h2=>⟨cmpN_bts.mp h,h2⟩,fun h2=>h2.2⟩
 ·rw[if_neg h]
  exact⟨fun h2=>absurd h2 h,fun h2=>absurd (cmpN_bts.mpr h2.1) h⟩
theorem cmpRec_lex (a b:aa_):cmpRec a b=if cmpK a b=0 then(if cmpB (bts (dataB a.f1 a.f3)) (bts (dataB b.f1 b.f3))=0 then cmpI a.f2 b.f2 else cmpB (bts (dataB a.f1 a.f3)) (bts (dataB b.f1 b.f3))) else cmpK a b:=by
 unfold cmpRec cmpK
 by_cases hn:cmpN a.f0 b.f0=0
 ·rw[if_pos hn,if_pos hn]
  by_cases ht:a.f1=b.f1
  ·rw[if_pos ht,if_pos (cmpI_zero.mpr ht)]
   unfold cmpB
   by_cases hd:bts (dataB a.f1 a.f3)=bts (dataB b.f1 b.f3)
   ·rw[if_pos hd,hd,bytesLess_irr]
    simp
   ·rw[if_neg hd]
    by_cases hl:Op.bytesLess (bts (dataB a.f1 a.f3)) (bts (dataB b.f1 b.f3))=true
    ·simp[hl,hd]
    ·simp[hl,hd]
  ·rw[if_neg ht,if_neg (fun h=>ht (cmpI_zero.mp h))]
   unfold cmpI
   by_cases hl:a.f1<b.f1
   ·simp[hl]
   ·have:a.f1 > b.f1:=by omega
    simp[hl,this]
 ·rw[if_neg hn,if_neg hn,if_neg hn]
theorem cmpRec_cmp:Cmp cmpRec:=by
 have:cmpRec=fun a b=>if cmpK a b=0 then(if cmpB (bts (dataB a.f1 a.f3)) (bts (dataB b.f1 b.f3))=0 then cmpI a.f2 b.f2 else cmpB (bts (dataB a.f1 a.f3)) (bts (dataB b.f1 b.f3))) else cmpK a b:=funext fun a=>funext fun b=>cmpRec_lex a b
 rw[this]
 exact cmpK_cmp.lex ((cmpB_cmp.pull (fun r:aa_=>bts (dataB r.f1 r.f3))).lex (cmpI_cmp.pull (fun r:aa_=>r.f2)))
theorem riseFrom_all:∀(l:List aa_) (a:aa_),riseFrom a l=true→(∀x∈l,cmpRec a x<0)∧l.Pairwise (fun x y=>cmpRec x y<0)∧∀x∈l,okR x=true
 | [],a,_=>by simp
 | b::t,a,h=>by
  simp only[riseFrom,Bool.and_eq_true,decide_eq_true_eq] at h
  obtain⟨⟨h1,h2⟩,h3⟩:=h
  obtain⟨i1,i2,i3⟩:=riseFrom_all t b h3
  refine⟨?_,List.pairwise_cons.mpr ⟨i1,i2⟩,?_⟩
  ·intro x hx
   rcases List.mem_cons.mp hx with rfl|hx
   ·exact h2
   ·exact cmpRec_cmp.lt_trans h2 (i1 x hx)
  ·intro x hx
   rcases List.mem_cons.mp hx with rfl|hx
   ·exact h1
   ·exact i3 x hx
theorem rises_all {l:List aa_} (h:rises l=true):l.Pairwise (fun x y=>cmpRec x y<0)∧∀x∈l,okR x=true:=by
 cases l with
 | nil=>simp
 | cons a t =>
  simp only[rises,Bool.and_eq_true] at h
  obtain⟨i1,i2,i3⟩:=riseFrom_all t a h.2
  refine⟨List.pairwise_cons.mpr ⟨i1,i2⟩,?_⟩
  intro x hx
  rcases List.mem_cons.mp hx with rfl|hx
  ·exact h.1
  ·exact i3 x hx
end Go.Proofs.YthohohfmdieohaaGreatDoor.PL
end
section
set_option linter.unusedVariables false
set_option linter.unusedSimpArgs false
namespace Go.Proofs.YthohohfmdieohaaGreatDoor.PL
open Go.RowKit Go.Proofs.YthohohfmdieohaaGreatDoor.Pp Go.Proofs.YthohohfmdieohaaGreatDoor.PB Go.Proofs.YthohohfmdieohaaGreatDoorW.PrintWords Go.Proofs.YthohohfmdieohaaGreatDoorW.PrintLast
theorem numOf_inj {l m:List UInt8} {a:Int} (h1:numOk l a=true) (h2:numOk m a=true) (e:numOf l=numOf m):l=m:=by
 obtain⟨a1,a2,_⟩:=numOk_len h1
 obtain⟨b1,b2,_⟩:=numOk_len h2
 unfold numOf at e
 rw[if_pos ⟨a2,a1⟩,if_pos ⟨b2,b1⟩] at e
 rw[←dec_valF l a2,←dec_valF m b2,show valF 0 l=valF 0 m by omega]
theorem numOk_range {l:List UInt8} {a:Int} (h:numOk l a=true):0≤numOf l∧numOf l≤a:=by
 unfold numOk at h
 simpa using h
theorem byte_inj {a b:Int} (ha:0≤a) (ha':a<256) (hb:0≤b) (hb':b<256) (h:UInt8.ofNat a.toNat=UInt8.ofNat b.toNat):a=b:=by
 have h1:=congrArg UInt8.toNat h
 simp only[UInt8.toNat_ofNat'] at h1
 omega
theorem byt1_bts (n:Int):bts (byt1 n)=[UInt8.ofNat (n % 256).toNat]:=rfl
theorem byt2_bts (n:Int):bts (byt2 n)=[UInt8.ofNat (n / 256 % 256).toNat,UInt8.ofNat (n % 256).toNat]:=rfl
theorem byt4_bts (n:Int):bts (byt4 n)=[UInt8.ofNat (n / 16777216 % 256).toNat,UInt8.ofNat (n / 65536 % 256).toNat,UInt8.ofNat (n / 256 % 256).toNat,UInt8.ofNat (n % 256).toNat]:=rfl
theorem bts_app (a b:ByteArray):bts (a++b)=bts a++bts b:=by
 unfold bts
 rw[ByteArray.data_append,Array.toList_append]
theorem byt1_inj {a b:Int} (ha:0≤a) (ha':a<256) (hb:0≤b) (hb':b<256) (h:bts (byt1 a)=bts (byt1 b)):a=b:=by
 rw[byt1_bts,byt1_bts] at h
 have h1:=(List.cons.inj h).1
 have:=byte_inj (by omega) (by omega) (by omega) (by omega) h1
 omega
theorem byt2_inj {a b:Int} (ha:0≤a) (ha':a<65536) (hb:0≤b) (hb':b<65536) (h:bts (byt2 a)=bts (byt2 b)):a=b:=by
 rw[byt2_bts,byt2_bts] at h
 obtain⟨h1,h2⟩:=List.cons.inj h
 have h2:=(List.cons.inj h2).1
 have e1:=byte_inj (by omega) (by omega) (by omega) (by omega) h1
 have e2:=byte_inj (by omega) (by omega) (by omega) (by omega) h2
 omega
theorem byt4_inj {a b:Int} (ha:0≤a) (ha':a<4294967296) (hb:0≤b) (hb':b<4294967296) (h:bts (byt4 a)=bts (byt4 b)):a=b:=by
 rw[byt4_bts,byt4_bts] at h
 obtain⟨h1,h⟩:=List.cons.inj h
 obtain⟨h2,h⟩:=List.cons.inj h
 obtain⟨h3,h⟩:=List.cons.inj h
 have h4:=(List.cons.inj h).1
 have e1:=byte_inj (by omega) (by omega) (by omega) (by omega) h1
 have e2:=byte_inj (by omega) (by omega) (by omega) (by omega) h2
 have e3:=byte_inj (by omega) (by omega) (by omega) (by omega) h3
 have e4:=byte_inj (by omega) (by omega) (by omega) (by omega) h4
 omega
theorem foldB {α:Type} (f:α→ByteArray):∀(l:List α) (a:ByteArray),bts (l.foldl (fun a x=>a++f x) a)=bts a++l.flatMap (fun x=>bts (f x))
 | [],a=>by simp
 | x::t,a=>by rw[List.foldl_cons,foldB f t,bts_app,List.flatMap_cons,List.append_assoc]
theorem aB_inj {s t:ByteArray} (hs:aOk s=true) (ht:aOk t=true) (h:bts (aB s)=bts (aB t)):bts s=bts t:=by
 unfold aOk at hs ht
 simp only[Bool.and_eq_true,decide_eq_true_eq,List.all_eq_true] at hs ht
 unfold aB at h
 rw[foldB (fun x=>byt1 (numOf (bts x))),foldB (fun x=>byt1 (numOf (bts x)))] at h
 simp only[b9_,List.nil_append,show(⟨#[]⟩:ByteArray)=⟨([]:List UInt8).toArray⟩ from rfl] at h
 have key:∀(l m:List ByteArray),l.length=m.length→(∀x∈l,numOk (bts x) 255=true)→(∀x∈m,numOk (bts x) 255=true)→l.flatMap (fun x=>bts (byt1 (numOf (bts x))))=m.flatMap (fun x=>bts (byt1 (numOf (bts x))))→l=m:=by
  intro l
  induction l with
  | nil=>intro m hl _ _ _;exact(List.eq_nil_of_length_eq_zero hl.symm).symm
  | cons x l ih =>
   intro m hl h1 h2 e
   cases m with
   | nil=>simp at hl
   | cons y m =>
    rw[List.flatMap_cons,List.flatMap_cons,byt1_bts,byt1_bts] at e
    obtain⟨e1,e2⟩:=List.cons.inj e
    have r1:=numOk_range (h1 x (by simp))
    have r2:=numOk_range (h2 y (by simp))
    have e3:=byt1_inj r1.1 (by omega) r2.1 (by omega) (by rw[byt1_bts,byt1_bts,e1])
    have e4:=bts_inj (numOf_inj (h1 x (by simp)) (h2 y (by simp)) e3)
    rw[e4,ih m (by simpa using hl) (fun z hz=>h1 z (by simp[hz])) (fun z hz=>h2 z (by simp[hz])) e2]
 have e:=key _ _ (hs.2.trans ht.2.symm) hs.1 ht.1 h
 have j1:=joinD_split 46 (bts s) []
 have j2:=joinD_split 46 (bts t) []
 unfold partsA at e
 rw[e,j2] at j1
 simpa using j1.symm
theorem wire_bts (s:ByteArray):bts (wireB s)=(labels s).flatMap (fun x=>UInt8.ofNat ((x.size:Int) % 256).toNat::bts x):=by
 unfold wireB
 rw[foldB (fun x:ByteArray=>strOfNums [(x.size:Int) % 256]++x)]
 simp only[bts_app,show(⟨#[]⟩:ByteArray)=⟨([]:List UInt8).toArray⟩ from rfl,b9_,List.nil_append]
 rfl
theorem wire_key:∀(l m:List ByteArray),(∀x∈l,x.size≤60)→(∀x∈m,x.size≤60)→l.flatMap (fun x=>UInt8.ofNat ((x.size:Int) % 256).toNat::bts x)=m.flatMap (fun x=>UInt8.ofNat ((x.size:Int) % 256).toNat::bts x)→l=m
 | [],[],_,_,_=>rfl
 | [],y::m,_,_,e=>by simp at e
 | x::l,[],_,_,e=>by simp at e
 | x::l,y::m,h1,h2,e=>by
  rw[List.flatMap_cons,List.flatMap_cons,List.cons_append,List.cons_append] at e
  obtain⟨e1,e2⟩:=List.cons.inj e
  have s1:=h1 x (by simp)
  have s2:=h2 y (by simp)
  have e3:=byte_inj (by omega) (by omega) (by omega) (by omega) e1
  have z1:=bt_ x
  have z2:=bt_ y
  obtain⟨e4,e5⟩:=List.append_inj e2 (by omega)
  rw[bts_inj e4,wire_key l m (fun z hz=>h1 z (by simp[hz])) (fun z hz=>h2 z (by simp[hz])) e5]
theorem wireB_inj {s t:ByteArray} (hs:targetOk s=true) (ht:targetOk t=true) (h:bts (wireB s)=bts (wireB t)):bts s=bts t:=by
 rw[wire_bts,wire_bts] at h
 have:=wire_key _ _ (nameOk_small (target_name hs)).2.2 (nameOk_small (target_name ht)).2.2 h
 rw[labels_inj this]
theorem mxB_inj {s t:ByteArray} (hs:mxOk s=true) (ht:mxOk t=true) (h:bts (mxB s)=bts (mxB t)):bts s=bts t:=by
 unfold mxOk at hs ht
 unfold mxB at h
 cases c1:cutB 32 (bts s) with
 | none=>rw[c1] at hs;cases hs
 | some pq =>
  cases c2:cutB 32 (bts t) with
  | none=>rw[c2] at ht;cases ht
  | some pq' =>
   obtain⟨p,q⟩:=pq
   obtain⟨p',q'⟩:=pq'
   rw[c1] at hs h
   rw[c2] at ht h
   simp only[Bool.and_eq_true] at hs ht h
   rw[bts_app,bts_app,bts_app,bts_app] at h
   obtain⟨e1,e2⟩:=List.append_inj h rfl
   have r1:=numOk_range hs.1
   have r2:=numOk_range ht.1
   have e3:=byt2_inj r1.1 (by omega) r2.1 (by omega) e1
   have e4:=numOf_inj hs.1 ht.1 e3
   have e5:=List.append_cancel_right e2
   have e6:=wireB_inj hs.2 ht.2 e5
   rw[b9_,b9_] at e6
   rw[(cutB_some c1).1,(cutB_some c2).1,e4,e6]
theorem dataB_inj {kind:Int} {s t:ByteArray} (hs:dataOk kind s=true) (ht:dataOk kind t=true) (h:bts (dataB kind s)=bts (dataB kind t)):bts s=bts t:=by
 unfold dataOk at hs ht
 unfold dataB at h
 by_cases c1:kind=1
 ·rw[if_pos c1] at hs ht
  rw[if_pos c1,if_pos c1] at h
  exact aB_inj hs ht h
 ·rw[if_neg c1] at hs ht
  rw[if_neg c1,if_neg c1] at h
  by_cases c2:kind=2∨kind=5
  ·rw[if_pos c2] at hs ht
   rw[if_pos c2,if_pos c2,bts_app,bts_app] at h
   exact wireB_inj hs ht (List.append_cancel_right h)
  ·rw[if_neg c2] at hs ht
   rw[if_neg c2,if_neg c2] at h
   by_cases c3:kind=6
   ·rw[if_pos c3] at hs ht
    rw[if_pos c3,if_pos c3] at h
    have r1:=numOk_range hs
    have r2:=numOk_range ht
    exact numOf_inj hs ht (byt4_inj r1.1 (by omega) r2.1 (by omega) h)
   ·rw[if_neg c3] at hs ht
    rw[if_neg c3,if_neg c3] at h
    by_cases c4:kind=15
    ·rw[if_pos c4] at hs ht
     rw[if_pos c4,if_pos c4] at h
     exact mxB_inj hs ht h
    ·rw[if_neg c4] at hs ht
     rw[if_neg c4,if_neg c4] at h
     by_cases c5:kind=16
     ·rw[if_pos c5,if_pos c5,bts_app,bts_app] at h
      exact(List.append_inj h rfl).2
     ·rw[if_neg c5] at hs
      cases hs
theorem cmpRec_zero {a b:aa_} (ha:okR a=true) (hb:okR b=true) (h:cmpRec a b=0):a=b:=by
 rw[cmpRec_lex] at h
 by_cases h1:cmpK a b=0
 ·rw[if_pos h1] at h
  obtain⟨e0,e1⟩:=cmpK_zero.mp h1
  by_cases h2:cmpB (bts (dataB a.f1 a.f3)) (bts (dataB b.f1 b.f3))=0
  ·rw[if_pos h2] at h
   have e2:=cmpI_zero.mp h
   have e3:=cmpB_zero _ _ h2
   have d1:=okR_data ha
   have d2:=okR_data hb
   rw[←e1] at d2 e3
   have e4:=dataB_inj d1 d2 e3
   obtain⟨a0,a1,a2,a3⟩:=a
   obtain⟨b0,b1,b2,b3⟩:=b
   simp only at e0 e1 e2 e4
   rw[bts_inj e0,e1,e2,bts_inj e4]
  ·rw[if_neg h2] at h
   exact absurd h h2
 ·rw[if_neg h1] at h
  exact absurd h h1
theorem cmpRec_self (a:aa_):cmpRec a a=0:=cmpRec_cmp.self a
end Go.Proofs.YthohohfmdieohaaGreatDoor.PL
end
section
set_option linter.unusedVariables false
set_option linter.unusedSimpArgs false
namespace Go.Proofs.YthohohfmdieohaaGreatDoor.PL
open Go.RowKit Go.Proofs.YthohohfmdieohaaGreatDoor.Pp Go.Proofs.YthohohfmdieohaaGreatDoor.PB Go.Proofs.YthohohfmdieohaaGreatDoorW.PrintWords Go.Proofs.YthohohfmdieohaaGreatDoorW.PrintLast
def goodL (l:List aa_):Prop:=l.Pairwise (fun x y=>cmpRec x y<0)∧∀x∈l,okR x=true∧szR x
def putR (r:aa_):List aa_→List aa_
 | []=>[r]
 | x::t=>if cmpRec x r<0 then x::putR r t else if cmpRec x r=0 then x::t else r::x::t
theorem eqR_eq {x y:aa_} (h:eqR x y=true):x=y:=by
 simp only[eqR,Bool.and_eq_true,decide_eq_true_eq] at h
 obtain⟨⟨⟨h1,h2⟩,h3⟩,h4⟩:=h
 cases x;cases y
 simp only at h1 h2 h3 h4
 have e1:=bts_inj h1
 have e4:=bts_inj h4
 subst e1 h2 h3 e4
 rfl
theorem eqR_cmp {x y:aa_} (hx:okR x=true) (hy:okR y=true):eqR x y=true↔cmpRec x y=0:=by
 constructor
 ·intro h
  rw[eqR_eq h]
  exact cmpRec_self y
 ·intro h
  rw[cmpRec_zero hx hy h]
  simp[eqR]
theorem putR_len (r:aa_):∀l,(putR r l).length≤l.length+1
 | []=>by simp[putR]
 | x::t=>by
  have:=putR_len r t
  rw[putR]
  split
  ·simp only[List.length_cons];omega
  ·split<;>simp
theorem putR_mem (r:aa_):∀l,∀x∈putR r l,x=r∨x∈l
 | [],x,h=>by
  rw[putR] at h
  exact Or.inl (by simpa using h)
 | y::t,x,h=>by
  rw[putR] at h
  split at h
  ·rcases List.mem_cons.1 h with rfl|h
   ·exact Or.inr (by simp)
   ·rcases putR_mem r t x h with h|h
    ·exact Or.inl h
    ·exact Or.inr (by simp[h])
  ·split at h
   ·exact Or.inr h
   ·rcases List.mem_cons.1 h with rfl|h
    ·exact Or.inl rfl
    ·exact Or.inr h
theorem putR_sorted (r:aa_):∀l:List aa_,l.Pairwise (fun x y=>cmpRec x y<0)→(putR r l).Pairwise (fun x y=>cmpRec x y<0)
 | [],_=>by simp[putR]
 | x::t,h=>by
  obtain⟨h1,h2⟩:=List.pairwise_cons.1 h
  rw[putR]
  by_cases c:cmpRec x r<0
  ·rw[if_pos c]
   refine List.pairwise_cons.2 ⟨fun y hy=>?_,putR_sorted r t h2⟩
   rcases putR_mem r t y hy with rfl|hy
   ·exact c
   ·exact h1 y hy
  ·rw[if_neg c]
   by_cases c0:cmpRec x r=0
   ·rw[if_pos c0];exact h
   ·rw[if_neg c0]
    have hrx:cmpRec r x<0:=by
     have:=cmpRec_cmp.anti x r
     omega
    refine List.pairwise_cons.2 ⟨fun y hy=>?_,h⟩
    rcases List.mem_cons.1 hy with rfl|hy
    ·exact hrx
    ·exact cmpRec_cmp.lt_trans hrx (h1 y hy)
theorem putR_good {r:aa_} {l:List aa_} (hr:okR r=true∧szR r) (h:goodL l):goodL (putR r l) :=
 ⟨putR_sorted r l h.1,fun x hx=>by
  rcases putR_mem r l x hx with rfl|hx
  ·exact hr
  ·exact h.2 x hx⟩
theorem putR_at (r:aa_):∀(l:List aa_) (i:Nat),i≤l.length→(∀j x,j<i→l[j]? = some x→cmpRec x r<0)→(∀x,l[i]? = some x→¬cmpRec x r<0) →
  putR r l=(if (match l[i]? with|some x=>decide (cmpRec x r=0)|none=>false)=true then l else l.take i++r::l.drop i)
 | [],i,h,_,_=>by
  obtain rfl:i=0:=by simpa using h
  rfl
 | x::t,0,h,_,h2=>by
  have:=h2 x rfl
  rw[putR,if_neg this]
  simp
 | x::t,i+1,h,h1,h2=>by
  have:=h1 0 x (by omega) rfl
  rw[putR,if_pos this,putR_at r t i (by simpa using h) (fun j y hj hy=>h1 (j+1) y (by omega) (by simpa using hy)) (fun y hy=>h2 y (by simpa using hy))]
  simp only[List.getElem?_cons_succ,List.take_succ_cons,List.drop_succ_cons,List.cons_append]
  cases t[i]? with
  | none=>rfl
  | some y =>
   simp only
   split<;>rfl
theorem specPut_eq (l:List aa_) (r:aa_) (hl:l.length≤1048576) (h:goodL l) (hr:okR r=true∧szR r):Ev (fun k=>aT_.f k l r.f0 r.f1 r.f2 r.f3) (putR r l):=by
 unfold aT_.f
 refine Ev.eq_ (bw_ l (fun k (_:Unit) i=>aT_.l0 k l i r.f0 r.f1 r.f2 r.f3) (fun _ _=>putR r l) (fun p _=>∀x∈p,cmpRec x r<0) ?_ ?_ () (by simp)) rfl
 ·intro _ hp
  have hput:=putR_at r l l.length (Nat.le_refl _) (fun j x _ hx=>hp x (List.mem_of_getElem? hx)) (fun x hx=>by rw[List.getElem?_eq_none (Nat.le_refl _)] at hx;cases hx)
  rw[List.getElem?_eq_none (Nat.le_refl _),if_neg (by simp),List.take_length,List.drop_length] at hput
  apply Ev.succ
  simp only[aT_.l0,Int.toNat_natCast,List.take_length,List.drop_length]
  refine Ev.neg (by omega) (Ev.pos (by omega) (Ev.pos (by omega) (Ev.cbind l rfl (Ev.pos (by simp;omega) (Ev.cbind l rfl (Ev.pos (by omega) (Ev.cbind _ rfl (Ev.cbind [] rfl (Ev.pos (by simp;omega) (Ev.const ?_))))))))))
  rw[hput,List.append_nil]
 ·intro p x t _ e hp ih
  have hm:=bE_ e
  have hx:=h.2 x (mem_mid e)
  have hget:l[p.length]? = some x:=by rw[e];simp
  apply Ev.succ
  simp only[aT_.l0,a_,cb_ e,eqR_spec]
  refine Ev.pos hm.1 (Ev.pos (by omega) (Ev.bind' _ (specCmpRec_eq x r hx.2 hr.2 hx.1 hr.1) ?_))
  rw[w64 (i:=(p.length:Int)+1) (by omega) (by omega)]
  by_cases c:cmpRec x r<0
  ·refine Ev.pos c (ih () (fun y hy=>?_))
   rcases List.mem_append.1 hy with hy|hy
   ·exact hp y hy
   ·obtain rfl:y=x:=by simpa using hy
    exact c
  ·have hput:=putR_at r l p.length (by omega) (fun j y hj hy=>hp y (by
    rw[e,List.getElem?_append_left hj] at hy
    exact List.mem_of_getElem? hy)) (fun y hy=>by rw[hget] at hy;obtain rfl:=Option.some.inj hy;exact c)
   rw[hget] at hput
   refine Ev.neg c ?_
   by_cases c0:cmpRec x r=0
   ·rw[(eqR_cmp hx.1 hr.1).2 c0]
    rw[if_pos (by simp[c0])] at hput
    exact Ev.a1_ (Ev.const (by rw[hput]))
   ·have he:eqR x r=false:=by
     cases hb:eqR x r with
     | false=>rfl
     | true=>exact absurd ((eqR_cmp hx.1 hr.1).1 hb) c0
    rw[he]
    rw[if_neg (by simp[c0])] at hput
    have ht:(l.take p.length).length=p.length:=by rw[List.length_take];omega
    have hd:(l.drop p.length).length=l.length - p.length:=List.length_drop
    rw[Int.toNat_natCast]
    refine Ev.a3_ (Ev.pos (by omega) (Ev.cbind (l.take p.length) rfl (Ev.pos (by simp;omega) (Ev.cbind (l.take p.length) rfl (Ev.pos (by omega) (Ev.cbind _ rfl (Ev.cbind (l.drop p.length) rfl (Ev.pos (by simp;omega) (Ev.const ?_)))))))))
    rw[hput]
    simp
theorem bin_eq (l:List aa_) (r:aa_) (hl:l.length≤1048576) (h:goodL l) (hr:okR r=true∧szR r):∃(i:Nat) (o:Bool),Ev (fun k=>ab_.f k l r.f0 r.f1 r.f2 r.f3) ((i:Int),o)∧i≤l.length∧putR r l=if o=true then l else l.take i++r::l.drop i:=by
 have hsort:∀(i j:Nat) (x y:aa_),i<j→l[i]? = some x→l[j]? = some y→cmpRec x y<0:=fun i j x y hij hx hy=>by
  obtain⟨hi,rfl⟩:=List.getElem?_eq_some_iff.1 hx
  obtain⟨hj,rfl⟩:=List.getElem?_eq_some_iff.1 hy
  exact List.pairwise_iff_getElem.1 h.1 i j hi hj hij
 have main:∀(m lo hi:Nat),hi - lo≤m→lo≤hi→hi≤l.length→(∀j x,j<lo→l[j]? = some x→cmpRec x r<0)→(∀x,l[hi]? = some x→¬cmpRec x r<0) →
   ∃(i:Nat) (o:Bool),Ev (fun k=>ab_.l0 k l (l.length:Int) (lo:Int) (hi:Int) r.f0 r.f1 r.f2 r.f3) ((i:Int),o)∧i≤l.length∧putR r l=if o=true then l else l.take i++r::l.drop i:=by
  intro m
  induction m with
  | zero =>
   intro lo hi hm hlh hhl h1 h2
   obtain rfl:lo=hi:=by omega
   have hput:=putR_at r l lo hhl h1 h2
   by_cases hlt:lo<l.length
   ·have hg:=List.getElem?_eq_getElem hlt
    have hx:=h.2 _ (List.getElem_mem hlt)
    generalize l[lo]=x at hg hx
    rw[hg] at hput
    refine⟨lo,(cmpRec x r==0),Ev.succ ?_,hhl,?_⟩
    ·simp only[ab_.l0,a_,Int.toNat_natCast]
     rw[show l.getD lo bZ_=x from by rw[List.getD_eq_getElem?_getD,hg];rfl]
     exact Ev.neg (by omega) (Ev.pos (by omega) (Ev.pos (by omega) (Ev.pos (by omega) (Ev.bind' _ (implCmpRec_eq x r hx.2 hr.2 hx.1 hr.1) (Ev.const rfl)))))
    ·rw[hput]
     by_cases c0:cmpRec x r=0<;>simp[c0]
   ·rw[List.getElem?_eq_none (by omega),if_neg (by simp)] at hput
    refine⟨lo,false,Ev.succ ?_,hhl,by rw[hput];simp⟩
    simp only[ab_.l0]
    exact Ev.neg (by omega) (Ev.neg (by omega) (Ev.const rfl))
  | succ m ih =>
   intro lo hi hm hlh hhl h1 h2
   by_cases hlt:lo<hi
   ·have hmid:wrap64 ((IntKind.u64.wrap (wrap64 ((lo:Int)+(hi:Int)))) / 2)=(((lo+hi) / 2:Nat):Int):=by
     rw[w64 (i:=(lo:Int)+(hi:Int)) (by omega) (by omega)]
     have e:IntKind.u64.wrap ((lo:Int)+(hi:Int))=(lo:Int)+(hi:Int):=by
      simp only[IntKind.wrap,IntKind.signed,IntKind.bits]
      first|omega|(simp;omega)
     rw[e,w64 (by omega) (by omega)]
     omega
    have hq:(lo+hi) / 2<hi:=by omega
    have hq0:lo≤(lo+hi) / 2:=by omega
    generalize (lo+hi) / 2=q at hmid hq hq0
    have hql:q<l.length:=by omega
    have hg:=List.getElem?_eq_getElem hql
    have hx:=h.2 _ (List.getElem_mem hql)
    generalize l[q]=x at hg hx
    have hrd:l.getD q bZ_=x:=by rw[List.getD_eq_getElem?_getD,hg];rfl
    by_cases c:cmpRec x r<0
    ·obtain⟨i,o,a1,a2,a3⟩:=ih (q+1) hi (by omega) (by omega) hhl (fun j y hj hy=>by
      rcases Nat.lt_or_ge j q with hjq|hjq
      ·exact cmpRec_cmp.lt_trans (hsort j q y x hjq hy hg) c
      ·obtain rfl:j=q:=by omega
       rw[hg] at hy
       obtain rfl:=Option.some.inj hy
       exact c) h2
     refine⟨i,o,Ev.succ ?_,a2,a3⟩
     simp only[ab_.l0,a_,hmid,Int.toNat_natCast,hrd]
     refine Ev.pos (by omega) (Ev.pos (by omega) (Ev.pos (by omega) (Ev.bind' _ (implCmpRec_eq x r hx.2 hr.2 hx.1 hr.1) (Ev.pos c ?_))))
     rw[w64 (by omega) (by omega)]
     exact a1
    ·obtain⟨i,o,a1,a2,a3⟩:=ih lo q (by omega) hq0 (by omega) h1 (fun y hy=>by rw[hg] at hy;obtain rfl:=Option.some.inj hy;exact c)
     refine⟨i,o,Ev.succ ?_,a2,a3⟩
     simp only[ab_.l0,a_,hmid,Int.toNat_natCast,hrd]
     exact Ev.pos (by omega) (Ev.pos (by omega) (Ev.pos (by omega) (Ev.bind' _ (implCmpRec_eq x r hx.2 hr.2 hx.1 hr.1) (Ev.neg c a1))))
   ·exact ih lo hi (by omega) hlh hhl h1 h2
 unfold ab_.f
 exact main l.length 0 l.length (by omega) (by omega) (Nat.le_refl _) (fun j x hj=>by omega) (fun x hx=>by rw[List.getElem?_eq_none (Nat.le_refl _)] at hx;cases hx)
theorem implPut_eq (l:List aa_) (r:aa_) (hl:l.length≤1048576) (h:goodL l) (hr:okR r=true∧szR r):Ev (fun k=>impl_put.f k l r.f0 r.f1 r.f2 r.f3) (putR r l):=by
 obtain⟨i,o,h1,h2,h3⟩:=bin_eq l r hl h hr
 unfold impl_put.f
 refine Ev.bind' _ h1 ?_
 cases o with
 | true =>
  rw[if_pos rfl] at h3
  exact Ev.a1_ (Ev.const (by rw[h3]))
 | false =>
  rw[if_neg (by simp)] at h3
  refine Ev.a3_ (Ev.pos ⟨by omega,by omega,by omega⟩ (Ev.const ?_))
  rw[h3,Int.toNat_natCast]
def lessR (l ex:List aa_):List aa_:=l.filter (fun r => !hasR ex r)
theorem implWithout_eq (l ex:List aa_) (hl:l.length≤1048576) (he:ex.length≤1048576):Ev (fun k=>bb_.f k l ex) (lessR l ex):=by
 unfold bb_.f
 refine Ev.eq_ (bw_ l (fun k s i=>bb_.l0 k ex s l (l.length:Int) i) (fun s t=>s++lessR t ex) (fun p s=>s.length≤p.length) ?_ ?_ [] (by simp)) (by simp)
 ·intro s hs
  apply Ev.succ
  simp only[bb_.l0]
  exact Ev.neg (by omega) (Ev.const (by simp[lessR]))
 ·intro p x t s e hs ih
  have hm:=bE_ e
  apply Ev.succ
  simp only[bb_.l0,a_,cb_ e]
  refine Ev.pos hm.1 (Ev.pos (by omega) (Ev.pos hm.1 (Ev.bind' _ (contains_eq ex x he) ?_)))
  rw[w64 (i:=(p.length:Int)+1) (by omega) (by omega)]
  cases hx:hasR ex x with
  | true=>exact Ev.a1_ (Ev.eq_ (ih s (by simp;omega)) (by simp[lessR,hx]))
  | false=>exact Ev.a3_ (Ev.pos (by omega) (Ev.eq_ (ih (s++[x]) (by simp;omega)) (by simp[lessR,hx])))
theorem specLess_eq (l ex:List aa_) (hl:l.length≤1048576) (he:ex.length≤1048576):Ev (fun k=>bh_.f k l ex) (lessR l ex):=by
 unfold bh_.f
 refine Ev.eq_ (bw_ l (fun k s i=>bh_.l0 k ex s l (l.length:Int) i) (fun s t=>s++lessR t ex) (fun p s=>s.length≤p.length) ?_ ?_ [] (by simp)) (by simp)
 ·intro s hs
  apply Ev.succ
  simp only[bh_.l0]
  exact Ev.neg (by omega) (Ev.const (by simp[lessR]))
 ·intro p x t s e hs ih
  have hm:=bE_ e
  apply Ev.succ
  simp only[bh_.l0,a_,cb_ e]
  refine Ev.pos hm.1 (Ev.pos (by omega) (Ev.pos hm.1 (Ev.bind' _ (specHas_eq ex x he) ?_)))
  rw[w64 (i:=(p.length:Int)+1) (by omega) (by omega)]
  cases hx:hasR ex x with
  | true=>exact Ev.a1_ (Ev.eq_ (ih s (by simp;omega)) (by simp[lessR,hx]))
  | false=>exact Ev.a3_ (Ev.pos (by omega) (Ev.eq_ (ih (s++[x]) (by simp;omega)) (by simp[lessR,hx])))
theorem bS_ {l:List aa_} (ex:List aa_) (h:goodL l):goodL (lessR l ex):=⟨h.1.filter _,fun x hx=>h.2 x (List.mem_filter.1 hx).1⟩
theorem lessR_len (l ex:List aa_):(lessR l ex).length≤l.length:=List.length_filter_le _ _
def bothR (a b:List aa_):List aa_:=b.foldl (fun s r=>putR r s) a
theorem bothR_len:∀(b a:List aa_),(bothR a b).length≤a.length+b.length
 | [],a=>by simp[bothR]
 | r::b,a=>by
  have h1:=bothR_len b (putR r a)
  have h2:=putR_len r a
  unfold bothR at h1 ⊢
  simp only[List.foldl_cons,List.length_cons]
  omega
theorem bothR_good:∀(b a:List aa_),goodL a→(∀x∈b,okR x=true∧szR x)→goodL (bothR a b)
 | [],a,h,_=>h
 | r::b,a,h,hb=>bothR_good b (putR r a) (putR_good (hb r (by simp)) h) (fun x hx=>hb x (by simp[hx]))
theorem cloneR2_eq (l:List aa_) (h:l.length≤1048576):bq_.f l=some l:=by
 unfold bq_.f
 simp only[Option.bind_some,List.length_nil,List.nil_append]
 rw[if_pos (by omega)]
theorem implBoth_eq (a b:List aa_) (ha:a.length≤1000) (hb:b.length≤1000) (ga:goodL a) (gb:goodL b):Ev (fun k=>bP_.f k a b) (bothR a b):=by
 unfold bP_.f
 refine Ev.cbind a (cloneR2_eq a (by omega)) ?_
 refine Ev.eq_ (bw_ b (fun k s i=>bP_.l0 k s b (b.length:Int) i) (fun s t=>bothR s t) (fun p s=>s.length≤1000+p.length∧goodL s) ?_ ?_ a ⟨by simpa using ha,ga⟩) rfl
 ·intro s hs
  apply Ev.succ
  simp only[bP_.l0]
  exact Ev.neg (by omega) (Ev.const rfl)
 ·rintro p x t s e ⟨h1,h2⟩ ih
  have hm:=bE_ e
  have hx:=gb.2 x (mem_mid e)
  have hl:=putR_len x s
  apply Ev.succ
  simp only[bP_.l0,a_,cb_ e]
  refine Ev.pos hm.1 (Ev.pos (by omega) (Ev.pos hm.1 (Ev.bind' _ (implPut_eq s x (by omega) h2 hx) ?_)))
  rw[w64 (by omega) (by omega)]
  exact ih (putR x s) ⟨by simp;omega,putR_good hx h2⟩
theorem specAnd_eq (a b:List aa_) (ha:a.length≤1000) (hb:b.length≤1000) (ga:goodL a) (gb:goodL b):Ev (fun k=>bG_.f k a b) (bothR a b):=by
 unfold bG_.f
 refine Ev.cbind [] rfl (Ev.pos (by simp;omega) ?_)
 rw[List.nil_append]
 refine Ev.eq_ (bw_ b (fun k s i=>bG_.l0 k s b (b.length:Int) i) (fun s t=>bothR s t) (fun p s=>s.length≤1000+p.length∧goodL s) ?_ ?_ a ⟨by simpa using ha,ga⟩) rfl
 ·intro s hs
  apply Ev.succ
  simp only[bG_.l0]
  exact Ev.neg (by omega) (Ev.const rfl)
 ·rintro p x t s e ⟨h1,h2⟩ ih
  have hm:=bE_ e
  have hx:=gb.2 x (mem_mid e)
  have hl:=putR_len x s
  apply Ev.succ
  simp only[bG_.l0,a_,cb_ e]
  refine Ev.pos hm.1 (Ev.pos (by omega) (Ev.pos hm.1 (Ev.bind' _ (specPut_eq s x (by omega) h2 hx) ?_)))
  rw[w64 (by omega) (by omega)]
  exact ih (putR x s) ⟨by simp;omega,putR_good hx h2⟩
def joinDf (a b:Int) (l m:List aa_) (c d:Int) (p q:List aa_):Int × Int × List aa_ × List aa_ × Bool :=
 if (goodD a b l m&&goodD c d p q&&decide (c=b) && !decide (a=d))=true then(if goodD a d (bothR (lessR l q) (lessR p m)) (bothR (lessR m p) (lessR q l))=true then(a,d,bothR (lessR l q) (lessR p m),bothR (lessR m p) (lessR q l),true) else(0,0,[],[],false)) else(0,0,[],[],false)
theorem goodD_good {a b:Int} {l m:List aa_} (h:goodD a b l m=true) (s1:∀r∈l,szR r) (s2:∀r∈m,szR r):(l.length≤40∧goodL l)∧m.length≤40∧goodL m:=by
 simp only[goodD,Bool.and_eq_true,decide_eq_true_eq] at h
 obtain⟨⟨⟨⟨⟨⟨⟨h1,h2⟩,h3⟩,h4⟩,h5⟩,h6⟩,h7⟩,h8⟩:=h
 obtain⟨r1,r2⟩:=rises_all h6
 obtain⟨r3,r4⟩:=rises_all h7
 exact⟨⟨h4,r1,fun x hx=>⟨r2 x hx,s1 x hx⟩⟩,h5,r3,fun x hx=>⟨r4 x hx,s2 x hx⟩⟩
section
variable (a b c d:Int) (l m p q:List aa_) (h1:l.length≤1048576) (h2:m.length≤1048576) (h3:p.length≤1048576) (h4:q.length≤1048576) (s1:∀r∈l,szR r) (s2:∀r∈m,szR r) (s3:∀r∈p,szR r) (s4:∀r∈q,szR r)
include h1 h2 h3 h4 s1 s2 s3 s4
theorem implJoin_eq:Ev (fun k=>av_.f k a b l m c d p q) (joinDf a b l m c d p q):=by
 have hbad:(goodD a b l m&&goodD c d p q&&decide (c=b) && !decide (a=d))=false→Ev (fun k=>av_.j0 k true a b l m c d p q) (joinDf a b l m c d p q):=fun h=>by
  apply Ev.succ
  simp only[av_.j0]
  exact Ev.pos (by first|rfl|trivial) (Ev.const (by rw[joinDf,h,if_neg (by simp)]))
 unfold av_.f
 refine Ev.bind' _ (implGoodDiff_eq a b l m h1 h2 s1 s2) ?_
 cases g1:goodD a b l m with
 | false=>exact Ev.a3_ (hbad (by simp[g1]))
 | true =>
  refine Ev.a1_ (Ev.bind' _ (implGoodDiff_eq c d p q h3 h4 s3 s4) ?_)
  cases g2:goodD c d p q with
  | false=>exact Ev.a3_ (hbad (by simp[g2]))
  | true =>
   refine Ev.a1_ ?_
   by_cases e:c=b
   ·refine Ev.pos e ?_
    by_cases e2:a=d
    ·rw[show(a==d)=true from by simp[e2]]
     exact hbad (by simp[e2])
    ·rw[show(a==d)=false from by simp[e2]]
     obtain⟨⟨l1,l2⟩,l3,l4⟩:=goodD_good g1 s1 s2
     obtain⟨⟨p1,p2⟩,p3,p4⟩:=goodD_good g2 s3 s4
     have k1:=lessR_len l q
     have k2:=lessR_len p m
     have k3:=lessR_len m p
     have k4:=lessR_len q l
     have n1:=bothR_len (lessR p m) (lessR l q)
     have n2:=bothR_len (lessR q l) (lessR m p)
     have b1:=bothR_good (lessR p m) (lessR l q) (bS_ q l2) (bS_ m p2).2
     have b2:=bothR_good (lessR q l) (lessR m p) (bS_ p l4) (bS_ l p4).2
     apply Ev.succ
     simp only[av_.j0]
     refine Ev.neg (by simp) (Ev.bind' _ (implWithout_eq l q h1 h4) (Ev.bind' _ (implWithout_eq p m h3 h2) (Ev.bind' _ (implBoth_eq _ _ (by omega) (by omega) (bS_ q l2) (bS_ m p2)) (Ev.bind' _ (implWithout_eq m p h2 h3) (Ev.bind' _ (implWithout_eq q l h4 h1) (Ev.bind' _ (implBoth_eq _ _ (by omega) (by omega) (bS_ p l4) (bS_ l p4)) (Ev.bind' _ (implGoodDiff_eq a d _ _ (by omega) (by omega) (fun x hx=>(b1.2 x hx).2) (fun x hx=>(b2.2 x hx).2)) ?_)))))))
     have hc:(goodD a b l m&&goodD c d p q&&decide (c=b) && !decide (a=d))=true:=by rw[g1,g2];simp[e,e2]
     rw[joinDf,if_pos hc]
     cases goodD a d (bothR (lessR l q) (lessR p m)) (bothR (lessR m p) (lessR q l)) with
     | true=>exact Ev.const (by simp)
     | false=>exact Ev.const (by simp)
   ·exact Ev.neg e (hbad (by simp[e]))
theorem specJoin_eq:Ev (fun k=>ax_.f k a b l m c d p q) (joinDf a b l m c d p q):=by
 have hbad:(goodD a b l m&&goodD c d p q&&decide (c=b) && !decide (a=d))=false→Ev (fun k=>ax_.j0 k true a b l m c d p q) (joinDf a b l m c d p q):=fun h=>by
  apply Ev.succ
  simp only[ax_.j0]
  exact Ev.pos (by first|rfl|trivial) (Ev.const (by rw[joinDf,h,if_neg (by simp)]))
 unfold ax_.f
 refine Ev.bind' _ (specGoodDiff_eq a b l m h1 h2 s1 s2) ?_
 cases g1:goodD a b l m with
 | false=>exact Ev.a3_ (hbad (by simp[g1]))
 | true =>
  refine Ev.a1_ (Ev.bind' _ (specGoodDiff_eq c d p q h3 h4 s3 s4) ?_)
  cases g2:goodD c d p q with
  | false=>exact Ev.a3_ (hbad (by simp[g2]))
  | true =>
   refine Ev.a1_ ?_
   by_cases e:c=b
   ·refine Ev.pos e ?_
    by_cases e2:a=d
    ·rw[show(a==d)=true from by simp[e2]]
     exact hbad (by simp[e2])
    ·rw[show(a==d)=false from by simp[e2]]
     obtain⟨⟨l1,l2⟩,l3,l4⟩:=goodD_good g1 s1 s2
     obtain⟨⟨p1,p2⟩,p3,p4⟩:=goodD_good g2 s3 s4
     have k1:=lessR_len l q
     have k2:=lessR_len p m
     have k3:=lessR_len m p
     have k4:=lessR_len q l
     have n1:=bothR_len (lessR p m) (lessR l q)
     have n2:=bothR_len (lessR q l) (lessR m p)
     have b1:=bothR_good (lessR p m) (lessR l q) (bS_ q l2) (bS_ m p2).2
     have b2:=bothR_good (lessR q l) (lessR m p) (bS_ p l4) (bS_ l p4).2
     apply Ev.succ
     simp only[ax_.j0]
     refine Ev.neg (by simp) (Ev.bind' _ (specLess_eq l q h1 h4) (Ev.bind' _ (specLess_eq p m h3 h2) (Ev.bind' _ (specAnd_eq _ _ (by omega) (by omega) (bS_ q l2) (bS_ m p2)) (Ev.bind' _ (specLess_eq m p h2 h3) (Ev.bind' _ (specLess_eq q l h4 h1) (Ev.bind' _ (specAnd_eq _ _ (by omega) (by omega) (bS_ p l4) (bS_ l p4)) (Ev.bind' _ (specGoodDiff_eq a d _ _ (by omega) (by omega) (fun x hx=>(b1.2 x hx).2) (fun x hx=>(b2.2 x hx).2)) ?_)))))))
     have hc:(goodD a b l m&&goodD c d p q&&decide (c=b) && !decide (a=d))=true:=by rw[g1,g2];simp[e,e2]
     rw[joinDf,if_pos hc]
     cases goodD a d (bothR (lessR l q) (lessR p m)) (bothR (lessR m p) (lessR q l)) with
     | true=>exact Ev.const (by simp)
     | false=>exact Ev.const (by simp)
   ·exact Ev.neg e (hbad (by simp[e]))
theorem joinT_len:(joinDf a b l m c d p q).2.2.1.length≤1048576∧(joinDf a b l m c d p q).2.2.2.1.length≤1048576:=by
 unfold joinDf
 split
 ·rename_i h
  simp only[Bool.and_eq_true] at h
  obtain⟨⟨l1,l2⟩,l3,l4⟩:=goodD_good h.1.1.1 s1 s2
  obtain⟨⟨p1,p2⟩,p3,p4⟩:=goodD_good h.1.1.2 s3 s4
  have k1:=lessR_len l q
  have k2:=lessR_len p m
  have k3:=lessR_len m p
  have k4:=lessR_len q l
  have n1:=bothR_len (lessR p m) (lessR l q)
  have n2:=bothR_len (lessR q l) (lessR m p)
  split
  ·exact⟨by simp only;omega,by simp only;omega⟩
  ·exact⟨by simp,by simp⟩
 ·exact⟨by simp,by simp⟩
end
end Go.Proofs.YthohohfmdieohaaGreatDoor.PL
end
section
set_option linter.unusedVariables false
set_option linter.unusedSimpArgs false
namespace Go.Proofs.YthohohfmdieohaaGreatDoor.PL
open Go.RowKit Go.Proofs.YthohohfmdieohaaGreatDoor.Pp Go.Proofs.YthohohfmdieohaaGreatDoor.PB Go.Proofs.YthohohfmdieohaaGreatDoorW.PrintWords Go.Proofs.YthohohfmdieohaaGreatDoorW.PrintLast
theorem strOfNums_one (x:Int):(strOfNums [x]).size=1:=rfl
theorem markText_eq (a:Int) (h0:0≤a) (h1:a≤4611686018427387904):∃s,Ev (fun k=>aV_.f k a) s:=by
 have main:∀(n:Nat) (a:Int) (x:ByteArray),a.toNat≤n→0≤a→a≤4611686018427387904→x.size+a.toNat≤4611686018427388904→∃s,Ev (fun k=>aV_.l0 k a x) s:=by
  intro n
  induction n with
  | zero =>
   intro a x hn h0 h1 hx
   refine⟨(⟨#[109]⟩:ByteArray)++x,Ev.succ ?_⟩
   simp only[aV_.l0]
   exact Ev.neg (by omega) (Ev.pos (by omega) (Ev.const rfl))
  | succ n ih =>
   intro a x hn h0 h1 hx
   by_cases hp:a > 0
   ·have hd:Int.tdiv a 10=a / 10:=Int.tdiv_eq_ediv_of_nonneg h0
    have hd2:a / 10<a:=by omega
    have hd3:0≤a / 10:=by omega
    have hsz:(strOfNums [(wrap64 (48+Int.tmod a 10)) % 256]++x).size=1+x.size:=by rw[ByteArray.size_append,strOfNums_one]
    obtain⟨s,hs⟩:=ih (a / 10) (strOfNums [(wrap64 (48+Int.tmod a 10)) % 256]++x) (by omega) hd3 (by omega) (by rw[hsz];omega)
    refine⟨s,Ev.succ ?_⟩
    simp only[aV_.l0]
    refine Ev.pos hp (Ev.cbind _ rfl (Ev.pos (by rw[strOfNums_one];omega) ?_))
    rw[hd,w64 (by omega) (by omega)]
    exact hs
   ·refine⟨(⟨#[109]⟩:ByteArray)++x,Ev.succ ?_⟩
    simp only[aV_.l0]
    exact Ev.neg hp (Ev.pos (by omega) (Ev.const rfl))
 by_cases h:a≤0
 ·refine⟨⟨#[109,48]⟩,?_⟩
  unfold aV_.f
  exact Ev.pos h (Ev.const rfl)
 ·obtain⟨s,hs⟩:=main a.toNat a ⟨#[]⟩ (Nat.le_refl _) h0 h1 (by have:(⟨#[]⟩:ByteArray).size=0:=rfl;omega)
  refine⟨s,?_⟩
  unfold aV_.f
  exact Ev.neg h hs
end Go.Proofs.YthohohfmdieohaaGreatDoor.PL
end
section
set_option linter.unusedVariables false
set_option linter.unusedSimpArgs false
namespace Go.Proofs.YthohohfmdieohaaGreatDoor.PL
open Go.RowKit Go.Proofs.YthohohfmdieohaaGreatDoor.Pp Go.Proofs.YthohohfmdieohaaGreatDoor.PB Go.Proofs.YthohohfmdieohaaGreatDoorW.PrintWords Go.Proofs.YthohohfmdieohaaGreatDoorW.PrintLast
theorem markRecordS_eq (l:List aa_) (hl:l.length≤1048576) (a:Int) (ha:0≤a) (hb:a≤1073741824):∃r l',Ev (fun k=>a5_.f k l a) (r,l')∧Ev (fun k=>ap_.f k l' a) r∧l'.length=l.length∧a≤r∧r≤a+4 * l.length:=by
 unfold a5_.f ap_.f
 refine mark_list 4 (by omega) (fun k l a i=>a5_.l0 k l a i) (fun k l a i=>ap_.l0 k l a i) 4294967296 ?_ ?_ ?_ l hl a ha (by omega)
 ·intro l a
  apply Ev.succ
  simp only[a5_.l0]
  exact Ev.neg (by omega) (Ev.const rfl)
 ·intro l a
  apply Ev.succ
  simp only[ap_.l0]
  exact Ev.neg (by omega) (Ev.const rfl)
 ·intro p x t a hp ha hb
  obtain⟨s,hs⟩:=markText_eq a ha (by omega)
  obtain⟨s2,hs2⟩:=markText_eq (a+1+1+1) (by omega) (by omega)
  refine⟨⟨s,a+1,a+1+1,s2⟩,a+4,by omega,by omega,?_,?_⟩
  ·intro r h
   have hm:=bE_ (l:=p++x::t) rfl
   have e4:a+1+1+1+1=a+4:=by omega
   apply Ev.succ
   simp only[a5_.l0]
   rw[w64 (i:=(p.length:Int)+1) (by omega) (by omega),w64 (i:=a+1) (by omega) (by omega),w64 (i:=a+1+1) (by omega) (by omega),w64 (i:=a+1+1+1) (by omega) (by omega),w64 (i:=a+1+1+1+1) (by omega) (by omega)]
   refine Ev.pos hm.1 (Ev.bind' _ hs (Ev.pos (by omega) (Ev.cbind _ rfl (Ev.cbind _ rfl (Ev.cbind _ rfl (Ev.bind' _ hs2 ?_))))))
   simp only[a_,set_mid,List.append_assoc,List.cons_append,List.nil_append,cb_ rfl]
   rw[e4]
   exact h
  ·intro q r hq h
   have hm:=bE_ (l:=p++(⟨s,a+1,a+1+1,s2⟩:aa_)::q) rfl
   have e4:a+1+1+1+1=a+4:=by omega
   apply Ev.succ
   simp only[ap_.l0,a_,cb_ rfl]
   rw[w64 (i:=(p.length:Int)+1) (by omega) (by omega),w64 (i:=a+1) (by omega) (by omega),w64 (i:=a+1+1) (by omega) (by omega),w64 (i:=a+1+1+1) (by omega) (by omega),w64 (i:=a+1+1+1+1) (by omega) (by omega),e4]
   exact Ev.pos hm.1 (Ev.pos (by omega) (Ev.bind' _ hs (Ev.pos (by trivial) (Ev.pos (by trivial) (Ev.pos (by trivial) (Ev.bind' _ hs2 (Ev.pos (by trivial) h)))))))
theorem markDiff_eq (n m:Int) (l1 l2:List aa_) (h1:l1.length≤1048576) (h2:l2.length≤1048576) (a:Int) (ha:0≤a) (hb:a≤16777216):∃r l1' l2',Ev (fun k=>bT_.f k n m l1 l2 a) (r,l1',l2')∧Ev (fun k=>bU_.f k n m l1' l2' a) r∧l1'.length=l1.length∧l2'.length=l2.length∧a≤r∧r≤a+4 * l1.length+4 * l2.length:=by
 obtain⟨r,l',x1,x2,x3,x4,x5⟩:=markRecordS_eq l1 h1 a ha (by omega)
 obtain⟨r2,l2',y1,y2,y3,y4,y5⟩:=markRecordS_eq l2 h2 r (by omega) (by omega)
 refine⟨r2,l',l2',?_,?_,x3,y3,by omega,by omega⟩
 ·unfold bT_.f
  exact Ev.bind' _ x1 (Ev.bind' _ y1 (Ev.const rfl))
 ·unfold bU_.f
  exact Ev.bind' _ x2 (Ev.neg (by omega) (Ev.bind' _ y2 (Ev.neg (by omega) (Ev.const rfl))))
end Go.Proofs.YthohohfmdieohaaGreatDoor.PL
end
section
set_option linter.unusedVariables false
set_option linter.unusedSimpArgs false
namespace Go.Proofs.YthohohfmdieohaaGreatDoor.Pure
open Go.RowKit Go.Proofs.YthohohfmdieohaaGreatDoor.Pp Go.Proofs.YthohohfmdieohaaGreatDoor.PB Go.Proofs.YthohohfmdieohaaGreatDoor.PL Go.Proofs.YthohohfmdieohaaGreatDoorW.PrintWords Go.Proofs.YthohohfmdieohaaGreatDoorW.PrintLast
theorem FnExactJoinDiffs:ah_.Pure:=by
 intro a b l m c d p q _ _ hl hm _ _ hp hq
 refine Ev.get (g:=fun k=>ah_.f k a b l m c d p q) ?_
 unfold ah_.f
 obtain⟨t,ht,hs⟩:=szDiff_eq a b l m hl hm 1048576 (by omega) (by omega)
 refine Ev.bind' _ ht ?_
 rcases hs with hs|⟨hs,hs2,⟨l1,l2⟩,m1,m2⟩
 ·exact Ev.pos hs (Ev.const rfl)
 ·obtain⟨t',ht',hs'⟩:=szDiff_eq c d p q hp hq t (by omega) (by omega)
  refine Ev.neg (by omega) (Ev.bind' _ ht' ?_)
  rcases hs' with hs'|⟨hs',_,⟨p1,p2⟩,q1,q2⟩
  ·exact Ev.pos hs' (Ev.const rfl)
  ·have hto:=toDiff_eq a b l m l1 m1
   have hto2:=toDiff_eq c d p q p1 q1
   have g1:(l.map cRec).length≤1048576:=by simpa using l1
   have g2:(m.map cRec).length≤1048576:=by simpa using m1
   have g3:(p.map cRec).length≤1048576:=by simpa using p1
   have g4:(q.map cRec).length≤1048576:=by simpa using q1
   have hsp:=specJoin_eq a b c d _ _ _ _ g1 g2 g3 g4 (szR_map l2) (szR_map m2) (szR_map p2) (szR_map q2)
   have him:=implJoin_eq a b c d _ _ _ _ g1 g2 g3 g4 (szR_map l2) (szR_map m2) (szR_map p2) (szR_map q2)
   obtain⟨n1,n2⟩:=joinT_len a b c d _ _ _ _ g1 g2 g3 g4 (szR_map l2) (szR_map m2) (szR_map p2) (szR_map q2)
   generalize joinDf a b (l.map cRec) (m.map cRec) c d (p.map cRec) (q.map cRec)=R at hsp him n1 n2
   have heq:=eqDiff_eq R.1 R.2.1 R.2.2.1 R.2.2.2.1 n1 n2
   have hei:=eqDiff_eq a b _ _ g1 g2
   have hei2:=eqDiff_eq c d _ _ g3 g4
   obtain⟨r1,u1,v1,a1,a2,a3,a4,a5,a6⟩:=markDiff_eq a b _ _ g1 g2 1 (by omega) (by omega)
   obtain⟨r3,u3,v3,c1,c2,c3,c4,c5,c6⟩:=markDiff_eq c d _ _ g3 g4 r1 (by omega) (by omega)
   obtain⟨r2,u2,v2,b1,b2,b3,b4,b5,b6⟩:=markDiff_eq R.1 R.2.1 R.2.2.1 R.2.2.2.1 n1 n2 1 (by omega) (by omega)
   refine Ev.neg (by omega) (Ev.bind' _ hto (Ev.bind' _ hto2 (Ev.bind' _ hsp (Ev.bind' _ hto (Ev.bind' _ hto2 (Ev.bind' _ him (Ev.bind' _ heq (Ev.a1_ (Ev.succ ?_)))))))))
   simp only[ah_.j0]
   refine Ev.neg (by simp) (Ev.bind' _ hto (Ev.bind' _ hei (Ev.a1_ (Ev.bind' _ hto2 (Ev.bind' _ hei2 (Ev.a1_ (Ev.bind' _ a1 (Ev.bind' _ c1 (Ev.neg (by omega) (Ev.bind' _ heq (Ev.a1_ (Ev.succ ?_))))))))))))
   simp only[ah_.j1]
   refine Ev.neg (by simp) (Ev.bind' _ b1 (Ev.bind' _ b2 (Ev.neg (by omega) (Ev.pos rfl (Ev.bind' _ hto (Ev.bind' _ hto2 (Ev.bind' _ him (Ev.bind' _ heq (Ev.a1_ (Ev.succ ?_))))))))))
   simp only[ah_.j2]
   exact Ev.neg (by simp) (Ev.bind' _ b2 (Ev.neg (by omega) (Ev.pos rfl (Ev.const rfl))))
end Go.Proofs.YthohohfmdieohaaGreatDoor.Pure
end
