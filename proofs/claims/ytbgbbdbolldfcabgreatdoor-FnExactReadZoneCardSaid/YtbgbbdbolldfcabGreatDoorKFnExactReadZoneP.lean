/- Texts that belong together,joined by claimit.py. -/
import Derived.Test.YtbgbbdbolldfcabGreatDoorKFnExactReadZoneW
import Derived.Test.YtbgbbdbolldfcabGreatDoorJFnExactReadZone0
import Derived.Test.YtbgbbdbolldfcabGreatDoorJFnExactReadZone1
import Derived.Test.YtbgbbdbolldfcabGreatDoorJFnExactReadZone2
import Derived.Test.YtbgbbdbolldfcabGreatDoorJFnExactReadZone3
section
set_option linter.unusedVariables false
set_option linter.unusedSimpArgs false
namespace Go.Proofs.YtbgbbdbolldfcabGreatDoor.PL
open Go.RowKit Go.Proofs.YtbgbbdbolldfcabGreatDoor.Pp Go.Proofs.YtbgbbdbolldfcabGreatDoor.PB Go.Proofs.YtbgbbdbolldfcabGreatDoorW.PrintWords Go.Proofs.YtbgbbdbolldfcabGreatDoorW.PrintLast
def inR (a b c:Int):Bool:=decide (b≤a∧a≤c)
theorem l1In_eq (a b c:Int):bx_.f a b c=some (inR a b c):=by
 unfold bx_.f inR
 by_cases h:a≥b
 ·rw[if_pos h];simp[h]
 ·rw[if_neg h];simp;omega
theorem within_eq (a b c:Int):bw_.f a b c=some (inR a b c):=by
 unfold bw_.f inR
 by_cases h:a≥b
 ·rw[if_pos h];simp[h]
 ·rw[if_neg h];simp;omega
theorem au_.idx (l0:List ByteArray) (q:ByteArray→Bool) (hl:l0.length≤1048576) (h:∀x∈l0,Ev (fun k=>cg_.f x) (q x)):Ev (fun k=>au_.f k l0 ) (idxP q l0):=by
 unfold au_.f
 refine Ev.eq_ (bo_ l0 (fun k (_:Nat) i=>au_.l0 k l0 (l0.length:Int) i) (fun n t=>if 0≤idxP q t then(n:Int)+idxP q t else -1) (fun p n=>n=p.length) ?_ ?_ 0 rfl) ?_
 ·intro n hn
  apply Ev.succ
  simp only[au_.l0]
  exact Ev.neg (by omega) (Ev.const (by simp[idxP]))
 ·intro p x t n e hn ih
  have hm:=br_ e
  have hx:=h x (ci_ e)
  apply Ev.succ
  simp only[au_.l0,cd_ e]
  refine Ev.pos hm.1 (Ev.pos (by omega) (Ev.pos hm.1 (Ev.bind' _ hx ?_)))
  have hq:idxP q (x::t)=(if q x then 0 else if 0≤idxP q t then idxP q t+1 else -1):=rfl
  rw[hq]
  cases q x with
  | true=>exact Ev.b_ (Ev.const (by simp[hn]))
  | false =>
   refine Ev.a4_ ?_
   rw[w64 (by omega) (by omega)]
   refine Ev.eq_ (ih (n+1) (by simp[hn])) ?_
   by_cases h2:0≤idxP q t
   ·simp[h2];omega
   ·simp[h2]
 ·by_cases h2:0≤idxP q l0
  ·simp[h2]
  ·rw[if_neg h2]
   exact(idxP_neg q l0 h2).symm
theorem a0_.any (l0:List ByteArray) (q:ByteArray→Bool) (hl:l0.length≤1048576) (h:∀x∈l0,Ev (fun k=>cg_.f x) (q x)):Ev (fun k=>a0_.f k l0 ) (l0.any q):=by
 unfold a0_.f
 refine Ev.bind' _ (au_.idx l0  q hl h) (Ev.const ?_)
 rw[idxP_nonneg]
def okB (b:UInt8):Bool:=(decide (97≤(b.toNat:Int))&&decide ((b.toNat:Int)≤122))||(decide (48≤(b.toNat:Int))&&decide ((b.toNat:Int)≤57))||decide ((b.toNat:Int)=45)||decide ((b.toNat:Int)=95)
def labelOk (s:ByteArray):Bool:=decide (bts s=[42])||((bts s).all okB&&inR (bts s).length 1 20)
def labels (s:ByteArray):List ByteArray:=if bts s=[] then [] else splitC 46 [] (bts s)
def nameOk (s:ByteArray):Bool:=decide ((bts s).length≤60)&&decide ((labels s).length≤8)&&(labels s).all labelOk
theorem specSplit_eq (s:ByteArray) (hs:s.size≤1048576):Ev (fun k=>aT_.f k s 46) (splitC 46 [] (bts s)):=by
 unfold aT_.f
 have hz:=aN_ s
 refine Ev.eq_ (bo_ (bts s) (fun k (st:List ByteArray × Nat × List UInt8) i=>aT_.l0 k s 46 st.1 st.2.1 i) (fun st t=>st.1++splitC 46 st.2.2 t) (fun p st=>st.2.1≤p.length∧st.2.2=p.drop st.2.1∧st.1.length≤p.length) ?_ ?_ ([],0,[]) ⟨Nat.zero_le _,rfl,Nat.zero_le _⟩) (by simp)
 ·rintro⟨acc,fr,cur⟩ ⟨h1,h2,h3⟩
  apply Ev.succ
  simp only[aT_.l0]
  simp only at h1 h2 h3
  refine Ev.neg (by omega) (Ev.pos (by omega) (Ev.pos (by omega) (Ev.pos (by omega) (Ev.const ?_))))
  simp only[splitC]
  rw[bV_,h2]
  congr 4
  rw[List.take_of_length_le]
  ·simp
  ·simp[hz]
 ·rintro p b t ⟨acc,fr,cur⟩ e ⟨h1,h2,h3⟩ ih
  have hm:=br_ e
  simp only at h1 h2 h3
  apply Ev.succ
  simp only[aT_.l0]
  refine Ev.pos (by omega) (Ev.pos (by omega) ?_)
  rw[bt_mid e,w64 (i:=(p.length:Int)+1) (by omega) (by omega)]
  by_cases hb:b=46
  ·subst hb
   refine Ev.pos (by decide) (Ev.pos (by omega) (Ev.pos (by omega) (Ev.pos (by omega) (Ev.pos (by omega) ?_))))
   have hx:s.extract ((fr:Nat):Int).toNat ((p.length:Nat):Int).toNat=⟨cur.toArray⟩:=by
    rw[bV_,h2]
    congr 2
    rw[e]
    simp only[Int.toNat_natCast]
    rw[List.drop_append_of_le_length h1,List.take_append_of_le_length (by simp),List.take_of_length_le (by simp)]
   rw[hx]
   have hc:((p.length:Int)+1)=(((p.length+1:Nat)):Int):=by omega
   refine Ev.eq_ (ih (acc++[⟨cur.toArray⟩],p.length+1,[]) ⟨by simp,by simp,by simp;omega⟩) ?_
   simp[splitC]
  ·have:¬((b.toNat:Int)=46):=by
    intro h
    apply hb
    apply UInt8.toNat_inj.mp
    have h46:(46:UInt8).toNat=46:=rfl
    omega
   refine Ev.neg this ?_
   refine Ev.eq_ (ih (acc,fr,cur++[b]) ⟨by simp;omega,?_,by simp;omega⟩) ?_
   ·simp only
    rw[h2,List.drop_append_of_le_length h1]
   ·simp[splitC,hb]
theorem genSplit_loop (n:Nat) (hn:n≤1048576):∀(m:Nat) (s:ByteArray) (A B:List ByteArray),s.size≤1048576→Go.Lib.countByte (bts s) 46=m→A.length+m=n→A.length+B.length=n+1 →
  Ev (fun k=>aD_.l0 k s (⟨#[46]⟩:ByteArray) 0 (n:Int) (A++B) (A.length:Int)) (A++splitC 46 [] (bts s))
 | 0,s,A,B,hs,hc,hA,hB=>by
  obtain⟨hnone,_⟩:=index_none _ _ hc
  apply Ev.succ
  simp only[aD_.l0]
  have hl:(A++B).length=n+1:=by simp;omega
  refine Ev.neg (by omega) (Ev.pos (by omega) (Ev.pos (by rw[hl];omega) ?_))
  rw[w64 (i:=(A.length:Int)+1) (by omega) (by omega)]
  refine Ev.pos (by omega) (Ev.pos (by rw[hl];omega) (Ev.const ?_))
  rw[cM_ _ _ _ hnone]
  obtain⟨b,B',rfl⟩:∃b B',B=b::B':=by
   cases B with
   | nil=>simp at hB;omega
   | cons b B'=>exact⟨b,B',rfl⟩
  rw[set_mid]
  have:(((A.length:Int)+1)).toNat=(A++[s]).length:=by simp<;>omega
  rw[this,List.take_left']
  ·simp[mk_bts]
  ·rfl
 | m+1,s,A,B,hs,hc,hA,hB=>by
  obtain⟨pre,post,e,hm,hi,hc2⟩:=index_some (bts s) 46 (by omega)
  have hz:=aN_ s
  have hlen:(bts s).length=pre.length+(post.length+1):=by rw[e];simp
  apply Ev.succ
  simp only[aD_.l0]
  have hl:(A++B).length=n+1:=by simp;omega
  refine Ev.pos (by omega) (Ev.cbind (pre.length:Int) ?_ ?_)
  ·unfold bS_.f
   rw[if_pos (by rfl)]
   exact congrArg some hi
  ·refine Ev.neg (by omega) ?_
   have hsz1:((⟨#[46]⟩:ByteArray).size:Int)=1:=rfl
   rw[hsz1,Int.add_zero,w64 (i:=(pre.length:Int)) (by omega) (by omega),w64 (i:=(pre.length:Int)+1) (by omega) (by omega),w64 (i:=(A.length:Int)+1) (by omega) (by omega)]
   refine Ev.pos (by omega) (Ev.pos (by omega) (Ev.pos (by omega) (Ev.pos (by rw[hl];omega) (Ev.pos (by omega) (Ev.pos (by omega) ?_)))))
   obtain⟨b,B',rfl⟩:∃b B',B=b::B':=by
    cases B with
    | nil=>simp at hB;omega
    | cons b B'=>exact⟨b,B',rfl⟩
   rw[set_mid]
   have hx1:s.extract 0 ((pre.length:Int)).toNat=⟨pre.toArray⟩:=by
    rw[bV_]
    congr 2
    rw[e]
    simp
   have hx2:s.extract (((pre.length:Int)+1)).toNat s.size=⟨post.toArray⟩:=by
    rw[bV_]
    congr 2
    have e':bts s=(pre++[46])++post:=by simpa using e
    have h1:(((pre.length:Int)+1)).toNat=(pre++[46]).length:=by simp<;>omega
    rw[e',h1,List.drop_left,List.take_of_length_le]
    simp at hlen ⊢
    omega
   rw[hx1,hx2]
   have hb1:bts (⟨post.toArray⟩:ByteArray)=post:=bc_ post
   have hb2:(⟨post.toArray⟩:ByteArray).size=post.length:=by rw[aN_,hb1]
   have:=genSplit_loop n hn m ⟨post.toArray⟩ (A++[⟨pre.toArray⟩]) B' (by omega) (by rw[hb1];omega) (by simp;omega) (by simp at hB ⊢;omega)
   have hcast:(((A++[(⟨pre.toArray⟩:ByteArray)]).length:Nat):Int)=(A.length:Int)+1:=by simp
   rw[hcast] at this
   refine Ev.eq_ this ?_
   rw[hb1,e,ca_ _ _ _ _ hm]
   simp
theorem strSplit_eq (s:ByteArray) (hs:s.size≤1048576):Ev (fun k=>bF_.f k s (⟨#[46]⟩:ByteArray)) (splitC 46 [] (bts s)):=by
 unfold bF_.f aD_.f
 have hz:=aN_ s
 have hcl:=count_le (bts s) 46
 refine Ev.bind' _ (Ev.neg (by omega) (Ev.neg (by rw[aG_];decide) (Ev.pos (by omega) (Ev.cbind (Go.Lib.countByte (bts s) 46:Int) (by unfold cx_.f;rw[if_pos (by rfl)];rfl) ?_)))) (Ev.const rfl)
 apply Ev.succ
 simp only[aD_.j0]
 rw[w64 (i:=((Go.Lib.countByte (bts s) 46:Nat):Int)+1) (by omega) (by omega),w64 (i:=(s.size:Int)+1) (by omega) (by omega)]
 have hmn:mn (((Go.Lib.countByte (bts s) 46:Nat):Int)+1) ((s.size:Int)+1)=((Go.Lib.countByte (bts s) 46+1:Nat):Int):=by
  unfold mn
  split<;>omega
 rw[hmn]
 rw[w64 (i:=((Go.Lib.countByte (bts s) 46+1:Nat):Int) - 1) (by omega) (by omega)]
 refine Ev.pos (by omega) (Ev.pos (by omega) ?_)
 have h1:(((Go.Lib.countByte (bts s) 46+1:Nat):Int) - 1)=((Go.Lib.countByte (bts s) 46:Nat):Int):=by omega
 rw[h1]
 have:=genSplit_loop (Go.Lib.countByte (bts s) 46) (by omega) _ s [] (List.replicate ((Go.Lib.countByte (bts s) 46+1:Nat):Int).toNat (⟨#[]⟩:ByteArray)) hs rfl (by simp) (by simp)
 simpa using this
theorem okB_in (b:UInt8):([97,98,99,100,101,102,103,104,105,106,107,108,109,110,111,112,113,114,115,116,117,118,119,120,121,122,48,49,50,51,52,53,54,55,56,57,45,95]:List UInt8).contains b=okB b :=
 all8 (fun b=>([97,98,99,100,101,102,103,104,105,106,107,108,109,110,111,112,113,114,115,116,117,118,119,120,121,122,48,49,50,51,52,53,54,55,56,57,45,95]:List UInt8).contains b) okB (by decide +kernel) b
theorem isLabel_eq (s:ByteArray) (hs:s.size≤1048576):cR_.f s=some (labelOk s):=by
 have hz:=aN_ s
 unfold cR_.f labelOk
 rw[aG_]
 by_cases h:bts s=[42]
 ·rw[if_pos h];simp[h]
 ·rw[if_neg h,within_eq]
  simp only[Option.bind_some,h,decide_false,Bool.false_or]
  rw[hz]
  cases hr:inR ((bts s).length:Int) 1 20 with
  | false=>simp
  | true =>
   simp only[if_true,Bool.and_true]
   unfold cQ_.f
   rw[if_pos ⟨by omega,by decide,by decide +kernel⟩]
   simp only[Option.bind_some]
   congr 1
   rw[aG_,bc_,trimS_nil]
   congr 1
   funext b
   exact okB_in b
theorem specLabel_eq (s:ByteArray) (hs:s.size≤1048576):Ev (fun k=>be_.f k s) (labelOk s):=by
 have hz:=aN_ s
 unfold be_.f labelOk
 rw[aG_]
 by_cases h:bts s=[42]
 ·exact Ev.pos h (Ev.const (by simp[h]))
 ·refine Ev.neg h ?_
  refine Ev.eq_ (bo_ (bts s) (fun k (_:Unit) i=>be_.l0 k s i) (fun _ t=>t.all okB&&inR (bts s).length 1 20) (fun _ _=>True) ?_ ?_ () trivial) (by simp[h])
  ·intro _ _
   apply Ev.succ
   simp only[be_.l0]
   refine Ev.neg (by omega) (Ev.cbind _ (l1In_eq _ _ _) (Ev.const (by simp[hz])))
  ·intro p b t _ e _ ih
   have hm:=br_ e
   apply Ev.succ
   simp only[be_.l0]
   refine Ev.pos (by omega) (Ev.pos (by omega) ?_)
   rw[bt_mid e,w64 (i:=(p.length:Int)+1) (by omega) (by omega)]
   have hgo:=ih () trivial
   have hb:=b.toNat_lt
   have key:∀(g:Nat→Option Bool),(okB b=true→Ev g (t.all okB&&inR (bts s).length 1 20))→(okB b=false→Ev g false)→Ev g ((b::t).all okB&&inR (bts s).length 1 20):=by
    intro g h1 h2
    cases ho:okB b with
    | true=>simpa[ho] using h1 ho
    | false=>simpa[ho] using h2 ho
   refine key _ (fun ho=>?_) (fun ho=>?_)
   ·simp only[okB,Bool.or_eq_true,Bool.and_eq_true,decide_eq_true_eq] at ho
    by_cases c1:(b.toNat:Int)≥97
    ·refine Ev.pos c1 ?_
     by_cases c2:(b.toNat:Int)≤122
     ·exact Ev.pos c2 hgo
     ·refine Ev.neg c2 (Ev.pos (by omega) (Ev.neg (by omega) (Ev.neg (by omega) (Ev.neg (by omega) ?_))))
      omega
    ·refine Ev.neg c1 ?_
     by_cases c3:(b.toNat:Int)≥48
     ·refine Ev.pos c3 ?_
      by_cases c4:(b.toNat:Int)≤57
      ·exact Ev.pos c4 hgo
      ·refine Ev.neg c4 ?_
       by_cases c5:(b.toNat:Int)=45
       ·exact Ev.pos c5 hgo
       ·exact Ev.neg c5 (Ev.pos (by omega) hgo)
     ·refine Ev.neg c3 ?_
      by_cases c5:(b.toNat:Int)=45
      ·exact Ev.pos c5 hgo
      ·exact Ev.neg c5 (Ev.pos (by omega) hgo)
   ·simp only[okB,Bool.or_eq_false_iff,Bool.and_eq_false_iff,decide_eq_false_iff_not] at ho
    by_cases c1:(b.toNat:Int)≥97
    ·exact Ev.pos c1 (Ev.neg (by omega) (Ev.pos (by omega) (Ev.neg (by omega) (Ev.neg (by omega) (Ev.neg (by omega) (Ev.const rfl))))))
    ·refine Ev.neg c1 ?_
     by_cases c3:(b.toNat:Int)≥48
     ·exact Ev.pos c3 (Ev.neg (by omega) (Ev.neg (by omega) (Ev.neg (by omega) (Ev.const rfl))))
     ·exact Ev.neg c3 (Ev.neg (by omega) (Ev.neg (by omega) (Ev.const rfl)))
theorem ct_ (c:UInt8):∀(l cur:List UInt8),∀x∈splitC c cur l,x.size≤cur.length+l.length
 | [],cur,x,h=>by
  simp only[splitC,List.mem_singleton] at h
  subst h
  rw[aN_,bc_]
  simp
 | b::l,cur,x,h=>by
  unfold splitC at h
  split at h
  ·rcases List.mem_cons.mp h with rfl|h2
   ·rw[aN_,bc_];simp
   ·have:=ct_ c l [] x h2
    simp at this ⊢
    omega
  ·have:=ct_ c l (cur++[b]) x h
   simp at this ⊢
   omega
theorem cV_ (s:ByteArray) (hs:s.size≤1048576):Ev (fun k=>a1_.f k s) (if (labels s).all labelOk=true then(labels s,decide ((bts s).length≤60)&&decide ((labels s).length≤8)) else([],false)):=by
 have hz:=aN_ s
 unfold a1_.f
 rw[aG_]
 by_cases h:bts s=[]
 ·refine Ev.pos h (Ev.const ?_)
  have:labels s=[]:=by unfold labels;rw[if_pos h]
  simp[this,h]
 ·have hlab:labels s=splitC 46 [] (bts s):=by unfold labels;rw[if_neg h]
  rw[hlab]
  refine Ev.neg h (Ev.bind' _ (specSplit_eq s hs) ?_)
  have hlen:=splitC_len 46 (bts s) []
  have hsz:=ct_ 46 (bts s) []
  generalize splitC 46 [] (bts s)=L at hlen hsz
  refine Ev.eq_ (bo_ L (fun k (_:Unit) i=>a1_.l0 k s L L (L.length:Int) i) (fun _ t=>if t.all labelOk=true then(L,decide ((bts s).length≤60)&&decide (L.length≤8)) else([],false)) (fun _ _=>True) ?_ ?_ () trivial) rfl
  ·intro _ _
   apply Ev.succ
   simp only[a1_.l0]
   refine Ev.neg (by omega) ?_
   by_cases h60:(s.size:Int)≤60
   ·refine Ev.pos h60 (Ev.const ?_)
    have:(bts s).length≤60:=by omega
    simp[this]
    omega
   ·refine Ev.neg h60 (Ev.const ?_)
    have:¬(bts s).length≤60:=by omega
    simp[this]
  ·intro p x t _ e _ ih
   have hm:=br_ e
   have hx:x.size≤1048576:=by have:=hsz x (ci_ e);simp at this;omega
   apply Ev.succ
   simp only[a1_.l0,cd_ e]
   refine Ev.pos hm.1 (Ev.pos (by omega) (Ev.pos hm.1 (Ev.bind' _ (specLabel_eq x hx) ?_)))
   cases hl:labelOk x with
   | false=>exact Ev.a4_ (Ev.const (by simp[hl]))
   | true =>
    refine Ev.b_ ?_
    rw[w64 (i:=(p.length:Int)+1) (by omega) (by omega)]
    refine Ev.eq_ (ih () trivial) ?_
    simp[hl]
theorem specGoodName_eq (s:ByteArray) (hs:s.size≤1048576):Ev (fun k=>cy_.f k s) (nameOk s):=by
 unfold cy_.f nameOk
 refine Ev.bind' _ (cV_ s hs) (Ev.const ?_)
 cases(labels s).all labelOk<;>simp
theorem labelsOf_eq (s:ByteArray) (hs:s.size≤1048576):Ev (fun k=>bG_.f k s) (labels s):=by
 unfold bG_.f labels
 rw[aG_]
 by_cases h:bts s=[]
 ·exact Ev.pos h (Ev.const (by rw[if_pos h]))
 ·rw[if_neg h]
  exact Ev.neg h (Ev.bind' _ (strSplit_eq s hs) (Ev.const rfl))
theorem labels_len (s:ByteArray):(labels s).length≤s.size+1:=by
 have hz:=aN_ s
 unfold labels
 split
 ·simp
 ·have:=splitC_len 46 (bts s) [];omega
theorem labels_sizes (s:ByteArray):∀x∈labels s,x.size≤s.size:=by
 have hz:=aN_ s
 unfold labels
 split
 ·simp
 ·intro x hx
  have:=ct_ 46 (bts s) [] x hx
  simp at this
  omega
theorem implGoodName_eq (s:ByteArray) (hs:s.size≤1048576):Ev (fun k=>by_.f k s) (nameOk s):=by
 have hz:=aN_ s
 have hll:=labels_len s
 have hls:=labels_sizes s
 unfold by_.f nameOk
 by_cases h:(s.size:Int) > 60
 ·refine Ev.pos h (Ev.const ?_)
  have:¬(bts s).length≤60:=by omega
  simp[this]
 ·refine Ev.neg h (Ev.bind' _ (labelsOf_eq s hs) ?_)
  have h60:(bts s).length≤60:=by omega
  by_cases h8:((labels s).length:Int)≤8
  ·refine Ev.pos h8 (Ev.bind' _ (a0_.any (labels s) (fun x => !labelOk x) (by omega) ?_) (Ev.const ?_))
   ·intro x hx
    unfold cg_.f
    exact Ev.cbind _ (isLabel_eq x (by have:=hls x hx;omega)) (Ev.const rfl)
   ·have h8':(labels s).length≤8:=by omega
    rw[any_not]
    simp[h60,h8']
  ·refine Ev.neg h8 (Ev.const ?_)
   have h8':¬(labels s).length≤8:=by omega
   simp[h8']
theorem numberIn_eq (s:ByteArray) (hs:s.size≤1048576) (most:Int) (hm:most≤9999999999):∃v,bP_.f s most=some (v,numOk (bts s) most)∧(numOk (bts s) most=true→v=numOf (bts s)):=by
 unfold bP_.f
 rw[if_pos (by omega)]
 have h:=number_in (bts s) most hm
 have e:bts s=s.data.toList:=rfl
 rw[e] at h ⊢
 cases hA:Go.Lib.atoiAll s.data.toList with
 | ok v =>
  rw[hA] at h
  simp only at h ⊢
  exact⟨v,by rw[h.1],h.2⟩
 | range =>
  rw[hA] at h
  simp only at h ⊢
  exact⟨_,by rw[h],fun h2=>by rw[h] at h2;cases h2⟩
 | _ =>
  rw[hA] at h
  simp only at h ⊢
  exact⟨0,by rw[h],fun h2=>by rw[h] at h2;cases h2⟩
theorem l1Int_eq (s:ByteArray) (hs:s.size≤1048576):Ev (fun k=>aS_.f k s) (numOf (bts s)):=by
 have hz:=aN_ s
 unfold aS_.f
 refine Ev.cbind _ (l1In_eq _ _ _) ?_
 have hend:∀b,b=true→numOf (bts s) = -1→Ev (fun k=>aS_.j0 k s b) (numOf (bts s)):=by
  intro b hb hn
  subst hb
  apply Ev.succ
  simp only[aS_.j0]
  exact Ev.pos (by first|rfl|trivial) (Ev.const (by rw[hn]))
 cases hr:inR (s.size:Int) 1 10 with
 | false =>
  refine Ev.a4_ (hend true rfl ?_)
  unfold inR at hr
  simp only[Bool.and_eq_false_iff,decide_eq_false_iff_not] at hr
  unfold numOf
  rw[if_neg]
  rintro⟨h1,h2⟩
  have:bts s≠[]:=by
   intro e
   rw[e] at h1
   simp[isNumeral] at h1
  have h3:0<(bts s).length:=List.length_pos_iff.mpr this
  omega
 | true =>
  refine Ev.b_ ?_
  unfold inR at hr
  simp only[Bool.and_eq_true,decide_eq_true_eq] at hr
  refine Ev.pos (by omega) ?_
  obtain⟨b,t,e⟩:∃b t,bts s=b::t:=by
   cases h:bts s with
   | nil =>
    have h0:(bts s).length=0:=by rw[h];rfl
    omega
   | cons b t=>exact⟨b,t,rfl⟩
  have hb0:bt s 0=(b.toNat:Int):=bt_mid (p:=[]) e
  have loop:(bts s).length≤10→Ev (fun k=>aS_.l0 k s 0 0) (if (bts s).all isDg=true then(valF 0 (bts s):Int) else -1):=by
   intro h10
   refine Ev.eq_ (bo_ (bts s) (fun k (st:Nat) i=>aS_.l0 k s (st:Int) i) (fun st u=>if u.all isDg=true then(valF st u:Int) else -1) (fun p st=>st<10 ^ p.length) ?_ ?_ 0 (by simp)) rfl
   ·intro st hst
    apply Ev.succ
    simp only[aS_.l0]
    exact Ev.neg (by omega) (Ev.const (by simp[cs_]))
   ·intro p c u st e2 hst ih
    have hm:=br_ e2
    have hp:10 ^ p.length≤10 ^ 9:=Nat.pow_le_pow_right (by decide) (by omega)
    apply Ev.succ
    simp only[aS_.l0]
    refine Ev.pos (by omega) (Ev.pos (by omega) ?_)
    rw[bt_mid e2,w64 (i:=(p.length:Int)+1) (by omega) (by omega),w64 (i:=10 * (st:Int)) (by omega) (by omega)]
    by_cases h1:c.toNat<48
    ·refine Ev.pos (by omega) (Ev.const ?_)
     have:isDg c=false:=by unfold isDg;simp;omega
     simp[this]
    ·refine Ev.neg (by omega) ?_
     by_cases h2:c.toNat > 57
     ·refine Ev.pos (by omega) (Ev.const ?_)
      have:isDg c=false:=by unfold isDg;simp;omega
      simp[this]
     ·refine Ev.neg (by omega) ?_
      have hd:isDg c=true:=by unfold isDg;simp;omega
      have e3:wrap64 (10 * (st:Int)+((c.toNat:Int) - 48) % 256)=((10 * st+(c.toNat - 48):Nat):Int):=by
       rw[w64 (by omega) (by omega)]
       omega
      rw[e3]
      refine Ev.eq_ (ih (10 * st+(c.toNat - 48)) ?_) ?_
      ·simp only[List.length_append,List.length_cons,List.length_nil,Nat.pow_succ]
       omega
      ·simp[hd,b6_]
  have h10:(bts s).length≤10:=by omega
  rw[hb0]
  by_cases h48:(b.toNat:Int)=48
  ·refine Ev.pos h48 ?_
   have hb:b=48:=by
    apply UInt8.toNat_inj.mp
    have h2:(48:UInt8).toNat=48:=rfl
    omega
   by_cases ht:t=[]
   ·have h1:(s.size:Int)=1:=by rw[hz,e,ht];rfl
    have hd:decide ((s.size:Int) > 1)=false:=by simp;omega
    rw[hd]
    apply Ev.succ
    simp only[aS_.j0]
    refine Ev.a4_ (Ev.eq_ (loop h10) ?_)
    rw[e,ht,hb]
    decide
   ·have hl:2≤(bts s).length:=by
     rw[e]
     have:=List.length_pos_iff.mpr ht
     simp only[List.length_cons]
     omega
    have hd:decide ((s.size:Int) > 1)=true:=by simp;omega
    rw[hd]
    refine hend true rfl ?_
    unfold numOf
    rw[if_neg]
    rintro⟨h1,h2⟩
    rw[e] at h1 hl
    simp only[List.length_cons] at hl
    simp[isNumeral,hb] at h1
    have:=h1.2
    subst this
    simp at hl
  ·refine Ev.neg h48 ?_
   apply Ev.succ
   simp only[aS_.j0]
   refine Ev.a4_ (Ev.eq_ (loop h10) ?_)
   have hne:b≠48:=fun h=>h48 (by rw[h];rfl)
   unfold numOf isNumeral
   rw[e]
   have hl:(b::t).length≤10:=by rw[←e];exact h10
   cases ha:(b::t).all isDg<;>simp[ha,hne,hl]<;>simp_all
def byt1 (n:Int):ByteArray:=strOfNums [n % 256]
def byt2 (n:Int):ByteArray:=strOfNums [n / 256 % 256,n % 256]
def byt4 (n:Int):ByteArray:=strOfNums [n / 16777216 % 256,n / 65536 % 256,n / 256 % 256,n % 256]
theorem number1_eq (n:Int):Ev (fun k=>aL_.f k n 1) (byt1 n):=by
 unfold aL_.f
 refine Ev.pos (by omega) (Ev.pos (by decide) ?_)
 rw[w64 (by omega) (by omega)]
 show Ev (fun k=>aL_.l0 k n [0] 0) _
 apply Ev.succ
 simp only[aL_.l0]
 refine Ev.pos (by omega) (Ev.pos (by omega) (Ev.pos (by decide) ?_))
 rw[w64 (by omega) (by omega)]
 apply Ev.succ
 simp only[aL_.l0]
 exact Ev.neg (by omega) (Ev.const rfl)
theorem number2_eq (n:Int):Ev (fun k=>aL_.f k n 2) (byt2 n):=by
 unfold aL_.f
 refine Ev.pos (by omega) (Ev.pos (by decide) ?_)
 rw[w64 (by omega) (by omega)]
 show Ev (fun k=>aL_.l0 k n [0,0] 1) _
 apply Ev.succ
 simp only[aL_.l0]
 refine Ev.pos (by omega) (Ev.pos (by omega) (Ev.pos (by decide) ?_))
 rw[w64 (by omega) (by omega)]
 show Ev (fun k=>aL_.l0 k (n / 256) [0,n % 256] 0) _
 apply Ev.succ
 simp only[aL_.l0]
 refine Ev.pos (by omega) (Ev.pos (by omega) (Ev.pos (by simp) ?_))
 rw[w64 (by omega) (by omega)]
 apply Ev.succ
 simp only[aL_.l0]
 exact Ev.neg (by omega) (Ev.const rfl)
theorem number4_eq (n:Int):Ev (fun k=>aL_.f k n 4) (byt4 n):=by
 unfold aL_.f
 refine Ev.pos (by omega) (Ev.pos (by decide) ?_)
 rw[w64 (by omega) (by omega)]
 show Ev (fun k=>aL_.l0 k n [0,0,0,0] 3) _
 apply Ev.succ
 simp only[aL_.l0]
 refine Ev.pos (by omega) (Ev.pos (by omega) (Ev.pos (by decide) ?_))
 rw[w64 (by omega) (by omega)]
 show Ev (fun k=>aL_.l0 k (n / 256) [0,0,0,n % 256] 2) _
 apply Ev.succ
 simp only[aL_.l0]
 refine Ev.pos (by omega) (Ev.pos (by omega) (Ev.pos (by simp) ?_))
 rw[w64 (by omega) (by omega)]
 show Ev (fun k=>aL_.l0 k (n / 256 / 256) [0,0,n / 256 % 256,n % 256] 1) _
 apply Ev.succ
 simp only[aL_.l0]
 refine Ev.pos (by omega) (Ev.pos (by omega) (Ev.pos (by simp) ?_))
 rw[w64 (by omega) (by omega)]
 show Ev (fun k=>aL_.l0 k (n / 256 / 256 / 256) [0,n / 256 / 256 % 256,n / 256 % 256,n % 256] 0) _
 apply Ev.succ
 simp only[aL_.l0]
 refine Ev.pos (by omega) (Ev.pos (by omega) (Ev.pos (by simp) ?_))
 rw[w64 (by omega) (by omega)]
 apply Ev.succ
 simp only[aL_.l0]
 refine Ev.neg (by omega) (Ev.const ?_)
 show some (strOfNums [n / 256 / 256 / 256 % 256,n / 256 / 256 % 256,n / 256 % 256,n % 256])=some (byt4 n)
 unfold byt4
 rw[show n / 16777216=n / 256 / 256 / 256 by omega,show n / 65536=n / 256 / 256 by omega]
theorem shr_at (x:Int) (y:Int) (n:Nat) (hn:y=(n:Int)) (h:n≤64):shr .i64 x y=x / 2 ^ n:=by
 unfold shr
 subst hn
 rw[show min ((n:Int)).toNat IntKind.i64.bits=n from by simp only[Int.toNat_natCast];exact Nat.min_eq_left h]
theorem big1_eq (n:Int):Ev (fun k=>a9_.f k n 1) (byt1 n):=by
 unfold a9_.f
 rw[w64 (by omega) (by omega)]
 show Ev (fun k=>a9_.l0 k n [] 0) _
 apply Ev.succ
 simp only[a9_.l0]
 rw[w64 (by omega) (by omega),w64 (by omega) (by omega),shr_at n (8 * 0) 0 rfl (by omega)]
 refine Ev.pos (by omega) (Ev.pos (by omega) (Ev.pos (by decide) ?_))
 apply Ev.succ
 simp only[a9_.l0]
 refine Ev.neg (by omega) (Ev.const ?_)
 simp[byt1]
theorem big2_eq (n:Int):Ev (fun k=>a9_.f k n 2) (byt2 n):=by
 unfold a9_.f
 rw[w64 (by omega) (by omega)]
 show Ev (fun k=>a9_.l0 k n [] 1) _
 apply Ev.succ
 simp only[a9_.l0]
 rw[w64 (by omega) (by omega),w64 (by omega) (by omega),shr_at n (8 * 1) 8 rfl (by omega)]
 refine Ev.pos (by omega) (Ev.pos (by omega) (Ev.pos (by decide) ?_))
 show Ev (fun k=>a9_.l0 k n [n / 2 ^ 8 % 256] 0) _
 apply Ev.succ
 simp only[a9_.l0]
 rw[w64 (by omega) (by omega),w64 (by omega) (by omega),shr_at n (8 * 0) 0 rfl (by omega)]
 refine Ev.pos (by omega) (Ev.pos (by omega) (Ev.pos (by simp) ?_))
 apply Ev.succ
 simp only[a9_.l0]
 refine Ev.neg (by omega) (Ev.const ?_)
 simp[byt2]
theorem big4_eq (n:Int):Ev (fun k=>a9_.f k n 4) (byt4 n):=by
 unfold a9_.f
 rw[w64 (by omega) (by omega)]
 show Ev (fun k=>a9_.l0 k n [] 3) _
 apply Ev.succ
 simp only[a9_.l0]
 rw[w64 (by omega) (by omega),w64 (by omega) (by omega),shr_at n (8 * 3) 24 rfl (by omega)]
 refine Ev.pos (by omega) (Ev.pos (by omega) (Ev.pos (by decide) ?_))
 show Ev (fun k=>a9_.l0 k n [n / 2 ^ 24 % 256] 2) _
 apply Ev.succ
 simp only[a9_.l0]
 rw[w64 (by omega) (by omega),w64 (by omega) (by omega),shr_at n (8 * 2) 16 rfl (by omega)]
 refine Ev.pos (by omega) (Ev.pos (by omega) (Ev.pos (by simp) ?_))
 show Ev (fun k=>a9_.l0 k n [n / 2 ^ 24 % 256,n / 2 ^ 16 % 256] 1) _
 apply Ev.succ
 simp only[a9_.l0]
 rw[w64 (by omega) (by omega),w64 (by omega) (by omega),shr_at n (8 * 1) 8 rfl (by omega)]
 refine Ev.pos (by omega) (Ev.pos (by omega) (Ev.pos (by simp) ?_))
 show Ev (fun k=>a9_.l0 k n [n / 2 ^ 24 % 256,n / 2 ^ 16 % 256,n / 2 ^ 8 % 256] 0) _
 apply Ev.succ
 simp only[a9_.l0]
 rw[w64 (by omega) (by omega),w64 (by omega) (by omega),shr_at n (8 * 0) 0 rfl (by omega)]
 refine Ev.pos (by omega) (Ev.pos (by omega) (Ev.pos (by simp) ?_))
 apply Ev.succ
 simp only[a9_.l0]
 refine Ev.neg (by omega) (Ev.const ?_)
 simp[byt4]
theorem ax_.idx (l0:List Int) (q:Int→Bool) (hl:l0.length≤1048576) (h:∀x∈l0,Ev (fun k=>b8_.f x) (q x)):Ev (fun k=>ax_.f k l0 ) (idxP q l0):=by
 unfold ax_.f
 refine Ev.eq_ (bo_ l0 (fun k (_:Nat) i=>ax_.l0 k l0 (l0.length:Int) i) (fun n t=>if 0≤idxP q t then(n:Int)+idxP q t else -1) (fun p n=>n=p.length) ?_ ?_ 0 rfl) ?_
 ·intro n hn
  apply Ev.succ
  simp only[ax_.l0]
  exact Ev.neg (by omega) (Ev.const (by simp[idxP]))
 ·intro p x t n e hn ih
  have hm:=br_ e
  have hx:=h x (ci_ e)
  apply Ev.succ
  simp only[ax_.l0,rd_mid' e]
  refine Ev.pos hm.1 (Ev.pos (by omega) (Ev.pos hm.1 (Ev.bind' _ hx ?_)))
  have hq:idxP q (x::t)=(if q x then 0 else if 0≤idxP q t then idxP q t+1 else -1):=rfl
  rw[hq]
  cases q x with
  | true=>exact Ev.b_ (Ev.const (by simp[hn]))
  | false =>
   refine Ev.a4_ ?_
   rw[w64 (by omega) (by omega)]
   refine Ev.eq_ (ih (n+1) (by simp[hn])) ?_
   by_cases h2:0≤idxP q t
   ·simp[h2];omega
   ·simp[h2]
 ·by_cases h2:0≤idxP q l0
  ·simp[h2]
  ·rw[if_neg h2]
   exact(idxP_neg q l0 h2).symm
theorem aW_.any (l0:List Int) (q:Int→Bool) (hl:l0.length≤1048576) (h:∀x∈l0,Ev (fun k=>b8_.f x) (q x)):Ev (fun k=>aW_.f k l0 ) (l0.any q):=by
 unfold aW_.f
 refine Ev.bind' _ (ax_.idx l0  q hl h) (Ev.const ?_)
 rw[idxP_nonneg]
def targetOk (s:ByteArray):Bool := !decide (bts s=[])&&nameOk s&&(labels s).all (fun x => !decide (bts x=[42]))
theorem splitC_mem (c:UInt8):∀(l cur:List UInt8) (b:UInt8),b∈cur∨b∈l→b=c∨∃x∈splitC c cur l,b∈bts x
 | [],cur,b,h=>by
  rcases h with h|h
  ·exact Or.inr ⟨⟨cur.toArray⟩,by simp[splitC],by rw[bc_];exact h⟩
  ·cases h
 | a::l,cur,b,h=>by
  unfold splitC
  by_cases ha:a=c
  ·rw[if_pos ha]
   rcases h with h|h
   ·exact Or.inr ⟨_,List.mem_cons_self,by rw[bc_];exact h⟩
   ·rcases List.mem_cons.mp h with h|h
    ·exact Or.inl (h.trans ha)
    ·rcases splitC_mem c l [] b (Or.inr h) with h2|⟨x,hx,h2⟩
     ·exact Or.inl h2
     ·exact Or.inr ⟨x,List.mem_cons_of_mem _ hx,h2⟩
  ·rw[if_neg ha]
   refine splitC_mem c l (cur++[a]) b ?_
   rcases h with h|h
   ·exact Or.inl (by simp[h])
   ·rcases List.mem_cons.mp h with h|h
    ·exact Or.inl (by simp[h])
    ·exact Or.inr h
theorem splitC_sub (c:UInt8):∀(l cur:List UInt8) (x:ByteArray) (b:UInt8),x∈splitC c cur l→b∈bts x→b∈cur∨b∈l
 | [],cur,x,b,hx,hb=>by
  simp only[splitC,List.mem_singleton] at hx
  subst hx
  rw[bc_] at hb
  exact Or.inl hb
 | a::l,cur,x,b,hx,hb=>by
  unfold splitC at hx
  by_cases ha:a=c
  ·rw[if_pos ha] at hx
   rcases List.mem_cons.mp hx with rfl|h
   ·rw[bc_] at hb;exact Or.inl hb
   ·rcases splitC_sub c l [] x b h hb with h2|h2
    ·cases h2
    ·exact Or.inr (List.mem_cons_of_mem _ h2)
  ·rw[if_neg ha] at hx
   rcases splitC_sub c l (cur++[a]) x b hx hb with h2|h2
   ·rcases List.mem_append.mp h2 with h3|h3
    ·exact Or.inl h3
    ·simp only[List.mem_singleton] at h3
     exact Or.inr (by rw[h3];exact List.mem_cons_self)
   ·exact Or.inr (List.mem_cons_of_mem _ h2)
theorem labelOk_in {x:ByteArray} (h:labelOk x=true) {b:UInt8} (hb:b∈bts x):bts x=[42]∨okB b=true:=by
 unfold labelOk at h
 simp only[Bool.or_eq_true,decide_eq_true_eq,Bool.and_eq_true,List.all_eq_true] at h
 rcases h with h|h
 ·exact Or.inl h
 ·exact Or.inr (h.1 b hb)
theorem star_label {s:ByteArray} (h:nameOk s=true):(42:UInt8)∈bts s↔∃x∈labels s,bts x=[42]:=by
 have hl:(labels s).all labelOk=true:=by
  unfold nameOk at h
  simp only[Bool.and_eq_true] at h
  exact h.2
 rw[List.all_eq_true] at hl
 unfold labels at hl ⊢
 by_cases he:bts s=[]
 ·rw[if_pos he];simp[he]
 ·rw[if_neg he] at hl ⊢
  constructor
  ·intro hm
   rcases splitC_mem 46 (bts s) [] 42 (Or.inr hm) with h2|⟨x,hx,hb⟩
   ·cases h2
   ·refine⟨x,hx,?_⟩
    rcases labelOk_in (hl x hx) hb with h3|h3
    ·exact h3
    ·exact absurd h3 (by decide)
  ·rintro⟨x,hx,hb⟩
   rcases splitC_sub 46 (bts s) [] x 42 hx (by rw[hb];simp) with h2|h2
   ·cases h2
   ·exact h2
theorem index_ge (l:List UInt8) (c:UInt8):decide (Go.Lib.indexByte l c≥0)=decide (c∈l):=by
 by_cases h:0<Go.Lib.countByte l c
 ·obtain⟨pre,post,e,_,hi,_⟩:=index_some l c h
  rw[hi]
  have:c∈l:=by rw[e];simp
  simp[this]
 ·obtain⟨h1,h2⟩:=index_none l c (by omega)
  rw[h2]
  simp[h1]
theorem hasByte_eq (s:ByteArray) (c:UInt8):bU_.f s (⟨#[c]⟩:ByteArray)=some (decide (c∈bts s)):=by
 unfold bU_.f bS_.f
 rw[if_pos (by rfl)]
 simp only[Option.bind_some]
 show some (decide (Go.Lib.indexByte (bts s) c≥0))=_
 rw[index_ge]
theorem bne_dec (a b:List UInt8):(a != b) = !decide (a=b):=by
 by_cases h:a=b
 ·simp[h]
 ·rw[bne_iff_ne.mpr h];simp[h]
theorem isTarget_eq (s:ByteArray) (hs:s.size≤1048576):Ev (fun k=>cl_.f k s) (targetOk s):=by
 unfold cl_.f targetOk
 rw[aG_]
 by_cases h:bts s=[]
 ·exact Ev.pos h (Ev.const (by simp[h]))
 ·refine Ev.neg h (Ev.bind' _ (implGoodName_eq s hs) ?_)
  cases hn:nameOk s with
  | false=>exact Ev.a4_ (Ev.const (by simp))
  | true =>
   refine Ev.b_ (Ev.cbind _ (hasByte_eq s 42) (Ev.const ?_))
   have hst:=star_label hn
   rw[Option.some.injEq,Bool.eq_iff_iff]
   simp only[h,decide_false,Bool.not_false,Bool.true_and,Bool.and_true,Bool.not_eq_true',decide_eq_false_iff_not,List.all_eq_true,Bool.not_eq_true',hst]
   constructor
   ·intro h2 x hx h3
    exact h2 ⟨x,hx,h3⟩
   ·rintro h2 ⟨x,hx,h3⟩
    exact h2 x hx h3
theorem specTarget_eq (s:ByteArray) (hs:s.size≤1048576):Ev (fun k=>bk_.f k s) (targetOk s):=by
 unfold bk_.f
 refine Ev.bind' _ (cV_ s hs) ?_
 have hll:=labels_len s
 have main:∀(L:List ByteArray),L.length≤1048577→∀ok:Bool,Ev (fun k=>bk_.l0 k s ok L (L.length:Int) 0) (ok&&L.all (fun x => !decide (bts x=[42])) && !decide (bts s=[])):=by
  intro L hL ok
  refine bo_ L (fun k (o:Bool) i=>bk_.l0 k s o L (L.length:Int) i) (fun o t=>o&&t.all (fun x => !decide (bts x=[42])) && !decide (bts s=[])) (fun _ _=>True) ?_ ?_ ok trivial
  ·intro o _
   apply Ev.succ
   simp only[bk_.l0]
   refine Ev.neg (by omega) ?_
   cases o with
   | false=>exact Ev.a4_ (Ev.const (by simp))
   | true=>exact Ev.b_ (Ev.const (by rw[aG_];by_cases h:bts s=[]<;>simp[h]))
  ·intro p x t o e _ ih
   have hm:=br_ e
   apply Ev.succ
   simp only[bk_.l0,cd_ e]
   refine Ev.pos hm.1 (Ev.pos (by omega) (Ev.pos hm.1 ?_))
   rw[w64 (i:=(p.length:Int)+1) (by omega) (by omega),aG_]
   cases o with
   | false=>exact Ev.a4_ (Ev.eq_ (ih false trivial) (by simp))
   | true =>
    refine Ev.b_ (Ev.eq_ (ih _ trivial) ?_)
    rw[bne_dec]
    simp
 unfold targetOk nameOk
 by_cases h:(labels s).all labelOk=true
 ·rw[if_pos h]
  refine Ev.eq_ (main (labels s) (by omega) _) ?_
  simp only[h]
  cases decide ((bts s).length≤60)<;>cases decide ((labels s).length≤8)<;>cases decide (bts s=[])<;>simp
 ·rw[if_neg h]
  refine Ev.eq_ (main [] (by simp) false) ?_
  simp[h]
def wireB (s:ByteArray):ByteArray:=(labels s).foldl (fun a x=>a++(strOfNums [(x.size:Int) % 256]++x)) (⟨#[]⟩:ByteArray)
theorem nameOk_labels' {s:ByteArray} (h:nameOk s=true):(labels s).all labelOk=true:=by
 unfold nameOk at h
 simp only[Bool.and_eq_true] at h
 exact h.2
theorem cp_ {s:ByteArray} (h:targetOk s=true):nameOk s=true:=by
 unfold targetOk at h
 simp only[Bool.and_eq_true] at h
 exact h.1.2
theorem cS_ {s:ByteArray} (h:nameOk s=true):s.size≤60∧(labels s).length≤8∧∀x∈labels s,x.size≤60:=by
 unfold nameOk at h
 simp only[Bool.and_eq_true,decide_eq_true_eq] at h
 have hz:=aN_ s
 refine⟨by omega,h.1.2,fun x hx=>?_⟩
 have:=labels_sizes s x hx
 omega
theorem b9_ (a b:ByteArray):(a++b).size=a.size+b.size:=ByteArray.size_append
theorem wire_step (a x:ByteArray) (n:Nat) (ha:a.size≤61 * n) (hx:x.size≤60) (hn:n≤8):(strOfNums [(x.size:Int) % 256]).size+x.size≤9223372036854775807∧a.size+(strOfNums [(x.size:Int) % 256]++x).size≤9223372036854775807∧(a++(strOfNums [(x.size:Int) % 256]++x)).size≤61 * (n+1):=by
 have h1:(strOfNums [(x.size:Int) % 256]).size=1:=strOfNums_size _
 simp only[b9_,h1]
 omega
theorem empty_le:(⟨#[]⟩:ByteArray).size≤61 * ([]:List ByteArray).length:=by decide
theorem labelBytes_eq (s:ByteArray) (h:nameOk s=true):Ev (fun k=>bj_.f k s) (wireB s)∧(wireB s).size≤488:=by
 obtain⟨h1,h2,h3⟩:=cS_ h
 have hw:∀(t p:List ByteArray) (a:ByteArray),labels s=p++t→a.size≤61 * p.length→(t.foldl (fun a x=>a++(strOfNums [(x.size:Int) % 256]++x)) a).size≤61 * 8:=by
  intro t
  induction t with
  | nil =>
   intro p a e ha
   simp only[List.foldl_nil]
   have:p.length≤8:=by rw[e] at h2;simpa using h2
   omega
  | cons x t ih =>
   intro p a e ha
   rw[List.foldl_cons]
   have hp:(labels s).length=p.length+(t.length+1):=by rw[e];simp
   have:=wire_step a x p.length ha (h3 x (by rw[e];simp)) (by omega)
   exact ih (p++[x]) (a++(strOfNums [(x.size:Int) % 256]++x)) (by rw[e];simp) (by rw[show(p++[x]).length=p.length+1 from by simp];exact this.2.2)
 have h8:=hw (labels s) [] (⟨#[]⟩:ByteArray) (List.nil_append _).symm empty_le
 refine⟨?_,by unfold wireB;exact h8⟩
 unfold bj_.f wireB
 refine Ev.bind' _ (labelsOf_eq s (by omega)) ?_
 refine Ev.eq_ (bo_ (labels s) (fun k (a:ByteArray) i=>bj_.l0 k a (labels s) ((labels s).length:Int) i) (fun a t=>t.foldl (fun a x=>a++(strOfNums [(x.size:Int) % 256]++x)) a) (fun p a=>a.size≤61 * p.length) ?_ ?_ (⟨#[]⟩:ByteArray) empty_le) rfl
 ·intro a _
  apply Ev.succ
  simp only[bj_.l0]
  exact Ev.neg (by omega) (Ev.const rfl)
 ·intro p x t a e ha ih
  have hm:=br_ e
  obtain⟨g1,g2,g3⟩:=wire_step a x p.length ha (h3 x (ci_ e)) (by omega)
  apply Ev.succ
  simp only[bj_.l0,cd_ e]
  refine Ev.pos hm.1 (Ev.pos (by omega) (Ev.pos hm.1 (Ev.cbind [(x.size:Int) % 256] rfl (Ev.pos g1 (Ev.pos g2 ?_)))))
  rw[w64 (i:=(p.length:Int)+1) (by omega) (by omega)]
  exact ih (a++(strOfNums [(x.size:Int) % 256]++x)) (by rw[show(p++[x]).length=p.length+1 from by simp];exact g3)
theorem l2Bytes_eq (s:ByteArray) (h:nameOk s=true):Ev (fun k=>bC_.f k s) (wireB s++(⟨#[0]⟩:ByteArray)):=by
 obtain⟨h1,h2,h3⟩:=cS_ h
 unfold bC_.f wireB
 have hl:(labels s).all labelOk=true:=(nameOk_labels' h)
 have hsl:=cV_ s (by omega)
 rw[if_pos hl] at hsl
 refine Ev.bind' _ hsl ?_
 refine Ev.eq_ (bo_ (labels s) (fun k (a:ByteArray) i=>bC_.l0 k a (labels s) ((labels s).length:Int) i) (fun a t=>t.foldl (fun a x=>a++(strOfNums [(x.size:Int) % 256]++x)) a++(⟨#[0]⟩:ByteArray)) (fun p a=>a.size≤61 * p.length) ?_ ?_ (⟨#[]⟩:ByteArray) empty_le) rfl
 ·intro a ha
  apply Ev.succ
  simp only[bC_.l0]
  exact Ev.neg (by omega) (Ev.pos (by omega) (Ev.const rfl))
 ·intro p x t a e ha ih
  have hm:=br_ e
  obtain⟨g1,g2,g3⟩:=wire_step a x p.length ha (h3 x (ci_ e)) (by omega)
  apply Ev.succ
  simp only[bC_.l0,cd_ e]
  refine Ev.pos hm.1 (Ev.pos (by omega) (Ev.pos hm.1 (Ev.cbind [(x.size:Int) % 256] rfl (Ev.pos g1 (Ev.pos g2 ?_)))))
  rw[w64 (i:=(p.length:Int)+1) (by omega) (by omega)]
  exact ih (a++(strOfNums [(x.size:Int) % 256]++x)) (by rw[show(p++[x]).length=p.length+1 from by simp];exact g3)
def cutB (c:UInt8):List UInt8→Option (List UInt8 × List UInt8)
 | []=>none
 | b::t=>if b=c then some ([],t) else(cutB c t).map (fun p=>(b::p.1,p.2))
theorem cutB_none {c:UInt8}:∀{l:List UInt8},cutB c l=none→c∉l
 | [],_=>by simp
 | b::t,h=>by
  unfold cutB at h
  by_cases hb:b=c
  ·rw[if_pos hb] at h;cases h
  ·rw[if_neg hb] at h
   simp only[Option.map_eq_none_iff] at h
   have:=cutB_none h
   intro hm
   rcases List.mem_cons.mp hm with e|e
   ·exact hb e.symm
   ·exact this e
theorem cF_ {c:UInt8}:∀{l p q:List UInt8},cutB c l=some (p,q)→l=p++c::q∧c∉p
 | [],p,q,h=>by cases h
 | b::t,p,q,h=>by
  unfold cutB at h
  by_cases hb:b=c
  ·rw[if_pos hb] at h
   simp only[Option.some.injEq,Prod.mk.injEq] at h
   obtain⟨rfl,rfl⟩:=h
   exact⟨by rw[hb];rfl,by simp⟩
  ·rw[if_neg hb] at h
   simp only[Option.map_eq_some_iff,Prod.mk.injEq,Prod.exists] at h
   obtain⟨p',q',h1,rfl,rfl⟩:=h
   obtain⟨h2,h3⟩:=cF_ h1
   refine⟨by rw[h2];rfl,?_⟩
   intro hm
   rcases List.mem_cons.mp hm with e|e
   ·exact hb e.symm
   ·exact h3 e
theorem splitC_ne (c:UInt8):∀(l cur:List UInt8),splitC c cur l≠[]
 | [],cur=>by simp[splitC]
 | b::l,cur=>by
  unfold splitC
  split
  ·simp
  ·exact splitC_ne c l _
theorem splitC_two (c:UInt8):∀(l cur:List UInt8),c∈l→2≤(splitC c cur l).length
 | [],cur,h=>by cases h
 | b::l,cur,h=>by
  unfold splitC
  by_cases hb:b=c
  ·rw[if_pos hb]
   have:=List.length_pos_iff.mpr (splitC_ne c l [])
   simp only[List.length_cons]
   omega
  ·rw[if_neg hb]
   rcases List.mem_cons.mp h with e|e
   ·exact absurd e.symm hb
   ·exact splitC_two c l _ e
theorem specSplitC_eq (c:UInt8) (s:ByteArray) (hs:s.size≤1048576):Ev (fun k=>aT_.f k s (c.toNat:Int)) (splitC c [] (bts s)):=by
 unfold aT_.f
 have hz:=aN_ s
 refine Ev.eq_ (bo_ (bts s) (fun k (st:List ByteArray × Nat × List UInt8) i=>aT_.l0 k s (c.toNat:Int) st.1 st.2.1 i) (fun st t=>st.1++splitC c st.2.2 t) (fun p st=>st.2.1≤p.length∧st.2.2=p.drop st.2.1∧st.1.length≤p.length) ?_ ?_ ([],0,[]) ⟨Nat.zero_le _,rfl,Nat.zero_le _⟩) (by simp)
 ·rintro⟨acc,fr,cur⟩ ⟨h1,h2,h3⟩
  apply Ev.succ
  simp only[aT_.l0]
  simp only at h1 h2 h3
  refine Ev.neg (by omega) (Ev.pos (by omega) (Ev.pos (by omega) (Ev.pos (by omega) (Ev.const ?_))))
  simp only[splitC]
  rw[bV_,h2]
  congr 4
  rw[List.take_of_length_le]
  ·simp
  ·simp[hz]
 ·rintro p b t ⟨acc,fr,cur⟩ e ⟨h1,h2,h3⟩ ih
  have hm:=br_ e
  simp only at h1 h2 h3
  apply Ev.succ
  simp only[aT_.l0]
  refine Ev.pos (by omega) (Ev.pos (by omega) ?_)
  rw[bt_mid e,w64 (i:=(p.length:Int)+1) (by omega) (by omega)]
  by_cases hb:b=c
  ·subst hb
   refine Ev.pos (by rfl) (Ev.pos (by omega) (Ev.pos (by omega) (Ev.pos (by omega) (Ev.pos (by omega) ?_))))
   have hx:s.extract ((fr:Nat):Int).toNat ((p.length:Nat):Int).toNat=⟨cur.toArray⟩:=by
    rw[bV_,h2]
    congr 2
    rw[e]
    simp only[Int.toNat_natCast]
    rw[List.drop_append_of_le_length h1,List.take_append_of_le_length (by simp),List.take_of_length_le (by simp)]
   rw[hx]
   have hc:((p.length:Int)+1)=(((p.length+1:Nat)):Int):=by omega
   refine Ev.eq_ (ih (acc++[⟨cur.toArray⟩],p.length+1,[]) ⟨by simp,by simp,by simp;omega⟩) ?_
   simp[splitC]
  ·have:¬((b.toNat:Int)=(c.toNat:Int)):=by
    intro h
    apply hb
    apply UInt8.toNat_inj.mp
    omega
   refine Ev.neg this ?_
   refine Ev.eq_ (ih (acc,fr,cur++[b]) ⟨by simp;omega,?_,by simp;omega⟩) ?_
   ·simp only
    rw[h2,List.drop_append_of_le_length h1]
   ·simp[splitC,hb]
def partsA (s:ByteArray):List ByteArray:=splitC 46 [] (bts s)
def aOk (s:ByteArray):Bool:=(partsA s).all (fun x=>numOk (bts x) 255)&&decide ((partsA s).length=4)
def aB (s:ByteArray):ByteArray:=(partsA s).foldl (fun a x=>a++byt1 (numOf (bts x))) (⟨#[]⟩:ByteArray)
def mxOk (s:ByteArray):Bool:=match cutB 32 (bts s) with
 | some (p,q)=>numOk p 65535&&targetOk ⟨q.toArray⟩
 | none=>false
def mxB (s:ByteArray):ByteArray:=match cutB 32 (bts s) with
 | some (p,q)=>byt2 (numOf p)++(wireB ⟨q.toArray⟩++(⟨#[0]⟩:ByteArray))
 | none=>(⟨#[]⟩:ByteArray)
def txtC (b:UInt8):Bool:=decide (32≤b.toNat)&&decide (b.toNat≤126)
def txtOk (s:ByteArray):Bool:=(bts s).all txtC&&decide ((bts s).length≤30)
def dataOk (kind:Int) (s:ByteArray):Bool :=
 if kind=1 then aOk s else if kind=2∨kind=5 then targetOk s else if kind=6 then numOk (bts s) 4294967295 else if kind=15 then mxOk s else if kind=16 then txtOk s else false
def dataB (kind:Int) (s:ByteArray):ByteArray :=
 if kind=1 then aB s else if kind=2∨kind=5 then wireB s++(⟨#[0]⟩:ByteArray) else if kind=6 then byt4 (numOf (bts s)) else if kind=15 then mxB s else if kind=16 then byt1 (s.size:Int)++s else(⟨#[]⟩:ByteArray)
theorem byt1_size (n:Int):(byt1 n).size=1:=strOfNums_size _
theorem byt2_size (n:Int):(byt2 n).size=2:=strOfNums_size _
theorem parts_len (s:ByteArray):(partsA s).length≤s.size+1:=by
 have hz:=aN_ s
 have:=splitC_len 46 (bts s) []
 unfold partsA
 omega
theorem parts_size {s x:ByteArray} (h:x∈partsA s):x.size≤s.size:=by
 have hz:=aN_ s
 have:=ct_ 46 (bts s) [] x h
 simp at this
 omega
theorem in255 (l:List UInt8) (m:Int):inR (numOf l) 0 m=numOk l m:=by
 unfold inR numOk
 by_cases h1:0≤numOf l<;>by_cases h2:numOf l≤m<;>simp[h1,h2]
theorem specA_eq (s:ByteArray) (hs:s.size≤1048576):∃B,Ev (fun k=>ai_.f k 1 s) (B,aOk s)∧(aOk s=true→B=aB s):=by
 have hl:=parts_len s
 have main:Ev (fun k=>ai_.f k 1 s) (if (partsA s).all (fun x=>numOk (bts x) 255)=true then(aB s,(((partsA s).length:Int)==4)) else((⟨#[]⟩:ByteArray),false)):=by
  unfold ai_.f
  refine Ev.pos rfl (Ev.bind' (partsA s) (specSplitC_eq 46 s hs) ?_)
  unfold aB
  refine Ev.eq_ (bo_ (partsA s) (fun k (a:ByteArray) i=>ai_.l0 k a (partsA s) (partsA s) ((partsA s).length:Int) i) (fun a t=>if t.all (fun x=>numOk (bts x) 255)=true then(t.foldl (fun a x=>a++byt1 (numOf (bts x))) a,(((partsA s).length:Int)==4)) else((⟨#[]⟩:ByteArray),false)) (fun p a=>a.size≤p.length) ?_ ?_ (⟨#[]⟩:ByteArray) (Nat.le_refl 0)) rfl
  ·intro a ha
   apply Ev.succ
   simp only[ai_.l0]
   exact Ev.neg (by omega) (Ev.const (by simp))
  ·intro p x t a e ha ih
   have hm:=br_ e
   have hx:=parts_size (ci_ e)
   apply Ev.succ
   simp only[ai_.l0,cd_ e]
   refine Ev.pos hm.1 (Ev.pos (by omega) (Ev.pos hm.1 (Ev.bind' (numOf (bts x)) (l1Int_eq x (by omega)) (Ev.cbind _ (l1In_eq _ _ _) ?_))))
   rw[in255]
   cases hn:numOk (bts x) 255 with
   | false=>exact Ev.a4_ (Ev.const (by simp[hn]))
   | true =>
    have h1:=byt1_size (numOf (bts x))
    refine Ev.b_ (Ev.bind' (byt1 (numOf (bts x))) (number1_eq _) (Ev.pos (by omega) ?_))
    rw[w64 (i:=(p.length:Int)+1) (by omega) (by omega)]
    refine Ev.eq_ (ih (a++byt1 (numOf (bts x))) (by rw[b9_,h1];simp;omega)) ?_
    simp[hn]
 refine⟨if (partsA s).all (fun x=>numOk (bts x) 255)=true then aB s else(⟨#[]⟩:ByteArray),Ev.eq_ main ?_,?_⟩
 ·unfold aOk
  by_cases h:(partsA s).all (fun x=>numOk (bts x) 255)=true
  ·rw[if_pos h,if_pos h,h]
   by_cases h4:(partsA s).length=4
   ·simp[h4]
   ·have:¬(((partsA s).length:Int)=4):=by omega
    simp[h4,this]
  ·rw[if_neg h,if_neg h]
   simp[h]
 ·intro h
  unfold aOk at h
  simp only[Bool.and_eq_true] at h
  rw[if_pos h.1]
theorem implA_eq (s:ByteArray) (hs:s.size≤1048576):Ev (fun k=>aB_.f k 1 s) (if aOk s=true then(aB s,true) else((⟨#[]⟩:ByteArray),false)):=by
 have hl:=parts_len s
 unfold aB_.f
 have hsp:Ev (fun k=>bF_.f k s (⟨#[46]⟩:ByteArray)) (partsA s):=strSplit_eq s hs
 refine Ev.pos rfl (Ev.bind' (partsA s) hsp ?_)
 unfold aB
 have hne:partsA s≠[]:=splitC_ne 46 (bts s) []
 by_cases h4:(partsA s).length=4
 ·refine Ev.eq_ (bo_ (partsA s) (fun k (a:ByteArray) i=>aB_.l0 k a (partsA s) (partsA s) ((partsA s).length:Int) i) (fun a t=>if t.all (fun x=>numOk (bts x) 255)=true then(t.foldl (fun a x=>a++byt1 (numOf (bts x))) a,true) else((⟨#[]⟩:ByteArray),false)) (fun p a=>a.size≤p.length) ?_ ?_ (⟨#[]⟩:ByteArray) (Nat.le_refl 0)) ?_
  ·intro a ha
   apply Ev.succ
   simp only[aB_.l0]
   exact Ev.neg (by omega) (Ev.const (by simp))
  ·intro p x t a e ha ih
   have hm:=br_ e
   have hx:=parts_size (ci_ e)
   obtain⟨v,hv,hv2⟩:=numberIn_eq x (by omega) 255 (by omega)
   apply Ev.succ
   simp only[aB_.l0,cd_ e]
   refine Ev.pos hm.1 (Ev.pos (by omega) (Ev.pos hm.1 (Ev.cbind _ hv ?_)))
   cases hn:numOk (bts x) 255 with
   | false=>exact Ev.a4_ (Ev.const (by simp[hn]))
   | true =>
    have hvn:=hv2 hn
    subst hvn
    have h1:=byt1_size (numOf (bts x))
    refine Ev.b_ (Ev.pos (by omega) (Ev.bind' (byt1 (numOf (bts x))) (big1_eq _) (Ev.pos (by omega) ?_)))
    rw[w64 (i:=(p.length:Int)+1) (by omega) (by omega)]
    refine Ev.eq_ (ih (a++byt1 (numOf (bts x))) (by rw[b9_,h1];simp;omega)) ?_
    simp[hn]
  ·unfold aOk
   simp[h4]
 ·obtain⟨x,t,e⟩:∃x t,partsA s=x::t:=by
   cases h:partsA s with
   | nil=>exact absurd h hne
   | cons x t=>exact⟨x,t,rfl⟩
  have hx:=parts_size (s:=s) (x:=x) (by rw[e];simp)
  obtain⟨v,hv,hv2⟩:=numberIn_eq x (by omega) 255 (by omega)
  have hno:aOk s=false:=by unfold aOk;simp[h4]
  have hr:rdOf ByteArray.empty (partsA s) 0=x:=cd_ (p:=[]) e
  have hp:0<(partsA s).length:=List.length_pos_iff.mpr hne
  apply Ev.succ
  simp only[aB_.l0,hr,hno]
  refine Ev.pos (by omega) (Ev.pos (by omega) (Ev.pos (by omega) (Ev.cbind _ hv ?_)))
  cases hn:numOk (bts x) 255 with
  | false=>exact Ev.a4_ (Ev.const rfl)
  | true=>exact Ev.b_ (Ev.neg (by omega) (Ev.const rfl))
theorem strCut32 (s:ByteArray) (hs:s.size≤1048576):cB_.f s (⟨#[32]⟩:ByteArray)=some (match cutB 32 (bts s) with
  | some (p,q)=>(⟨p.toArray⟩,⟨q.toArray⟩,true)
  | none=>(s,⟨#[]⟩,false)):=by
 have hz:=aN_ s
 unfold cB_.f cG_.f bK_.f
 rw[if_pos (by rfl),show Go.Lib.indexByte s.data.toList ((⟨#[32]⟩:ByteArray).data.toList.headD 0)=Go.Lib.indexByte (bts s) 32 from rfl]
 simp only[Option.bind_some]
 cases hc:cutB 32 (bts s) with
 | none =>
  have hn:=cutB_none hc
  have hcnt:¬0<Go.Lib.countByte (bts s) 32:=by
   intro h
   obtain⟨pre,post,e,_⟩:=index_some (bts s) 32 h
   exact hn (by rw[e];simp)
  obtain⟨_,hi⟩:=index_none (bts s) 32 (by omega)
  rw[hi,if_neg (by omega)]
  rfl
 | some pq =>
  obtain⟨p,q⟩:=pq
  obtain⟨e,hp⟩:=cF_ hc
  have hcnt:0<Go.Lib.countByte (bts s) 32:=by
   rcases Nat.eq_zero_or_pos (Go.Lib.countByte (bts s) 32) with h|h
   ·exact absurd (by rw[e];simp:(32:UInt8)∈bts s) (index_none (bts s) 32 h).1
   ·exact h
  obtain⟨pre,post,e2,hp2,hi,_⟩:=index_some (bts s) 32 hcnt
  have hpre:pre=p∧post=q:=by
   have:=e2.symm.trans e
   have h1:=ca_ 32 post pre [] hp2
   have h2:=ca_ 32 q p [] hp
   clear hi e e2 hcnt hc hz
   induction pre generalizing p with
   | nil =>
    cases p with
    | nil=>simp at this;exact⟨rfl,this⟩
    | cons a p=>simp at this;exact absurd this.1 (fun h=>hp (by simp[h]))
   | cons a pre ih =>
    cases p with
    | nil=>simp at this;exact absurd this.1 (fun h=>hp2 (by simp[h]))
    | cons b p =>
     simp only[List.cons_append,List.cons.injEq] at this
     obtain⟨rfl,this⟩:=this
     have:=ih p (fun h=>hp (List.mem_cons_of_mem _ h)) (fun h=>hp2 (List.mem_cons_of_mem _ h)) this (ca_ 32 post pre [] (fun h=>hp2 (List.mem_cons_of_mem _ h))) (ca_ 32 q p [] (fun h=>hp (List.mem_cons_of_mem _ h)))
     exact⟨by rw[this.1],this.2⟩
  obtain⟨rfl,rfl⟩:=hpre
  have hlen:(bts s).length=pre.length+(post.length+1):=by rw[e];simp
  have h1:((⟨#[32]⟩:ByteArray).size:Int)=1:=rfl
  rw[hi,h1,w64 (i:=(pre.length:Int)+1) (by omega) (by omega),if_pos (by omega),if_pos (by omega),if_pos (by omega),if_pos (by omega),if_pos (by omega)]
  simp only[Option.bind_some]
  have x1:s.extract 0 ((pre.length:Int)).toNat=⟨pre.toArray⟩:=by
   rw[bV_]
   congr 2
   rw[e]
   simp
  have x2:s.extract (((pre.length:Int)+1)).toNat s.size=⟨post.toArray⟩:=by
   rw[bV_]
   congr 2
   have e':bts s=(pre++[32])++post:=by simpa using e
   have h1:(((pre.length:Int)+1)).toNat=(pre++[32]).length:=by simp<;>omega
   rw[e',h1,List.drop_left,List.take_of_length_le]
   simp at hlen ⊢
   omega
  rw[x1,x2]
def ltS (a b:ByteArray):Bool:=Op.bytesLess (bts a) (bts b)
def cmpR:List ByteArray→List ByteArray→Int
 | [],[]=>0
 | [],_::_ => -1
 | _::_,[]=>1
 | a::s,b::t=>if ltS a b=true then -1 else if bts a=bts b then cmpR s t else 1
def cmpN (a b:ByteArray):Int:=cmpR (labels a).reverse (labels b).reverse
theorem rev_at {α:Type} {l p t:List α} {x d:α} (e:l.reverse=p++x::t):rdOf d l ((l.length:Int) - ((p.length:Int)+1))=x:=by
 have hl:l=t.reverse++x::p.reverse:=by
  have:=congrArg List.reverse e
  rw[List.reverse_reverse] at this
  rw[this]
  simp
 have hn:((l.length:Int) - ((p.length:Int)+1))=((t.reverse.length:Nat):Int):=by
  rw[hl]
  simp<;>omega
 rw[hn]
 exact cd_ hl
theorem specCompare_loop (x y:List ByteArray) (hx:x.length≤1048577) (hy:y.length≤1048577):∀(s t p q:List ByteArray),x.reverse=p++s→y.reverse=q++t→p.length=q.length→Ev (fun k=>aU_.l0 k x y ((p.length:Int)+1)) (cmpR s t)
 | [],t,p,q,e1,e2,hp=>by
  have l1:x.length=p.length:=by have:=congrArg List.length e1;simpa using this
  have l2:y.length=q.length+t.length:=by have:=congrArg List.length e2;simpa using this
  apply Ev.succ
  simp only[aU_.l0]
  refine Ev.neg (by omega) (Ev.succ ?_)
  simp only[aU_.j1]
  cases t with
  | nil =>
   simp only[List.length_nil] at l2
   first
    | exact Ev.neg (by simp) (Ev.neg (by omega) (Ev.neg (by omega) (Ev.const rfl)))
    | exact Ev.neg (by omega) (Ev.neg (by omega) (Ev.const rfl))
  | cons b t =>
   simp only[List.length_cons] at l2
   first
    | exact Ev.neg (by simp) (Ev.pos (by omega) (Ev.const rfl))
    | exact Ev.pos (by omega) (Ev.const rfl)
 | a::s,[],p,q,e1,e2,hp=>by
  have l1:x.length=p.length+(s.length+1):=by have:=congrArg List.length e1;simpa using this
  have l2:y.length=q.length:=by have:=congrArg List.length e2;simpa using this
  apply Ev.succ
  simp only[aU_.l0]
  refine Ev.pos (by omega) (Ev.succ ?_)
  simp only[aU_.j1]
  refine Ev.neg (by simp;omega) (Ev.neg (by omega) (Ev.pos (by omega) (Ev.const rfl)))
 | a::s,b::t,p,q,e1,e2,hp=>by
  have l1:x.length=p.length+(s.length+1):=by have:=congrArg List.length e1;simpa using this
  have l2:y.length=q.length+(t.length+1):=by have:=congrArg List.length e2;simpa using this
  have ra:rdOf ByteArray.empty x ((x.length:Int) - ((p.length:Int)+1))=a:=rev_at e1
  have rb:rdOf ByteArray.empty y ((y.length:Int) - ((p.length:Int)+1))=b:=by rw[hp];exact rev_at e2
  have ih:=specCompare_loop x y hx hy s t (p++[a]) (q++[b]) (by rw[e1];simp) (by rw[e2];simp) (by simp[hp])
  have ec:(((p++[a]).length:Nat):Int)+1=(p.length:Int)+1+1:=by simp
  rw[ec] at ih
  apply Ev.succ
  simp only[aU_.l0]
  refine Ev.pos (by omega) (Ev.succ ?_)
  simp only[aU_.j1]
  rw[w64 (i:=(x.length:Int) - ((p.length:Int)+1)) (by omega) (by omega),w64 (i:=(y.length:Int) - ((p.length:Int)+1)) (by omega) (by omega),w64 (i:=(p.length:Int)+1+1) (by omega) (by omega),ra,rb,aG_,aG_]
  refine Ev.pos (by simp;omega) (Ev.pos (by omega) (Ev.pos (by omega) (Ev.pos (by omega) (Ev.pos (by omega) ?_))))
  have hc:cmpR (a::s) (b::t)=if ltS a b=true then -1 else if bts a=bts b then cmpR s t else 1:=rfl
  rw[hc]
  by_cases h1:ltS a b=true
  ·rw[if_pos h1]
   exact Ev.pos h1 (Ev.const rfl)
  ·rw[if_neg h1]
   refine Ev.neg h1 ?_
   by_cases h2:bts a=bts b
   ·rw[if_pos h2]
    exact Ev.pos h2 ih
   ·rw[if_neg h2]
    exact Ev.neg h2 (Ev.const rfl)
theorem specCompare_eq (a b:ByteArray) (ha:a.size≤1048576) (hb:b.size≤1048576) (ga:(labels a).all labelOk=true) (gb:(labels b).all labelOk=true):Ev (fun k=>aU_.f k a b) (cmpN a b):=by
 have la:=labels_len a
 have lb:=labels_len b
 unfold aU_.f
 have h1:=cV_ a ha
 have h2:=cV_ b hb
 rw[if_pos ga] at h1
 rw[if_pos gb] at h2
 refine Ev.bind' _ h1 (Ev.bind' _ h2 ?_)
 have:=specCompare_loop (labels a) (labels b) (by omega) (by omega) (labels a).reverse (labels b).reverse [] [] rfl rfl rfl
 unfold cmpN
 simpa using this
theorem reverse_loop:∀(n:Nat) (M A B:List ByteArray),M.length≤n→A.length=B.length→(A++M++B).length≤1048577→Ev (fun k=>ap_.l0 k (A++M++B) (A.length:Int) ((A.length:Int)+M.length - 1)) (A++M.reverse++B)
 | n,[],A,B,hn,hAB,hl=>by
  apply Ev.succ
  simp only[ap_.l0]
  exact Ev.neg (by simp<;>omega) (Ev.const (by simp))
 | n,[m],A,B,hn,hAB,hl=>by
  apply Ev.succ
  simp only[ap_.l0]
  exact Ev.neg (by simp<;>omega) (Ev.const (by simp))
 | 0,m1::m2::M,A,B,hn,hAB,hl=>by simp at hn
 | n+1,m1::m2::M,A,B,hn,hAB,hl=>by
  obtain⟨M',z,hM⟩:∃M' z,m2::M=M'++[z]:=⟨(m2::M).dropLast,(m2::M).getLast (by simp),(List.dropLast_concat_getLast _).symm⟩
  rw[hM] at hn hl ⊢
  have hlen:(A++(m1::(M'++[z]))++B).length=A.length+(M'.length+2)+B.length:=by simp;omega
  rw[hlen] at hl
  simp only[List.length_cons,List.length_append,List.length_nil] at hn
  have e1:A++(m1::(M'++[z]))++B=A++m1::(M'++z::B):=by simp
  have e2:A++(m1::(M'++[z]))++B=(A++m1::M')++z::B:=by simp
  have hj:(A.length:Int)+(((m1::(M'++[z])).length:Nat):Int) - 1=(((A++m1::M').length:Nat):Int):=by simp;omega
  have hj2:(((A++m1::M').length:Nat):Int)=(A.length:Int)+M'.length+1:=by simp;omega
  rw[hj]
  have ih:=reverse_loop n M' (A++[z]) (m1::B) (by omega) (by simp;omega) (by simp;omega)
  apply Ev.succ
  simp only[ap_.l0]
  have r1:rdOf ByteArray.empty (A++(m1::(M'++[z]))++B) (A.length:Int)=m1:=cd_ e1
  have r2:rdOf ByteArray.empty (A++(m1::(M'++[z]))++B) (((A++m1::M').length:Nat):Int)=z:=cd_ e2
  rw[r1,r2,w64 (i:=(A.length:Int)+1) (by omega) (by omega),w64 (i:=(((A++m1::M').length:Nat):Int) - 1) (by omega) (by omega)]
  refine Ev.pos (by omega) (Ev.pos (by omega) (Ev.pos (by rw[hlen];omega) (Ev.pos (by omega) (Ev.pos (by rw[hlen];omega) ?_))))
  have s1:(A++(m1::(M'++[z]))++B).set ((A.length:Int)).toNat z=(A++z::M')++z::B:=by
   rw[e1,set_mid]
   simp
  have s2:((A++z::M')++z::B).set ((((A++m1::M').length:Nat):Int)).toNat m1=(A++[z])++M'++(m1::B):=by
   have:(((A++m1::M').length:Nat):Int)=(((A++z::M').length:Nat):Int):=by simp
   rw[this,set_mid]
   simp
  rw[s1,s2]
  have c1:(((A++[z]).length:Nat):Int)=(A.length:Int)+1:=by simp
  have c2:(A.length:Int)+1+(M'.length:Int) - 1=(((A++m1::M').length:Nat):Int) - 1:=by rw[hj2];omega
  rw[c1,c2] at ih
  refine Ev.eq_ ih ?_
  simp
theorem reverse_eq (l:List ByteArray) (hl:l.length≤1048577):Ev (fun k=>ap_.f k l) l.reverse:=by
 unfold ap_.f
 rw[w64 (by omega) (by omega)]
 have:=reverse_loop l.length l [] [] (Nat.le_refl _) rfl (by simpa using hl)
 simpa using this
theorem cmpStr_eq (a b:ByteArray):c_.f a b=some (if ltS a b=true then -1 else if bts a=bts b then 0 else 1):=by
 unfold c_.f bh_.f ltS
 simp only[Option.bind_some,bne_self_eq_false,Bool.false_eq_true,if_false,aG_]
 split
 ·rfl
 ·split<;>rfl
theorem sliceCompare_eq (x y:List ByteArray) (hx:x.length≤1048577) (hy:y.length≤1048577):Ev (fun k=>aP_.f k x y) (cmpR x y):=by
 unfold aP_.f
 have main:∀(s t p q:List ByteArray),x=p++s→y=q++t→p.length=q.length→Ev (fun k=>aP_.l0 k x y x (x.length:Int) (p.length:Int)) (cmpR s t):=by
  intro s
  induction s with
  | nil =>
   intro t p q e1 e2 hp
   have l1:x.length=p.length:=by rw[e1];simp
   have l2:y.length=q.length+t.length:=by rw[e2];simp
   apply Ev.succ
   simp only[aP_.l0]
   refine Ev.neg (by omega) ?_
   cases t with
   | nil=>simp only[List.length_nil] at l2;exact Ev.neg (by omega) (Ev.const rfl)
   | cons b t=>simp only[List.length_cons] at l2;exact Ev.pos (by omega) (Ev.const rfl)
  | cons a s ih =>
   intro t p q e1 e2 hp
   have m1:=br_ e1
   apply Ev.succ
   simp only[aP_.l0,cd_ e1]
   refine Ev.pos m1.1 (Ev.pos (by omega) (Ev.pos m1.1 ?_))
   cases t with
   | nil =>
    have l2:y.length=q.length:=by rw[e2];simp
    exact Ev.pos (by omega) (Ev.const rfl)
   | cons b t =>
    have m2:=br_ e2
    have rb:rdOf ByteArray.empty y (p.length:Int)=b:=by rw[hp];exact cd_ e2
    have hg:=ih t (p++[a]) (q++[b]) (by rw[e1];simp) (by rw[e2];simp) (by simp[hp])
    have ec:(((p++[a]).length:Nat):Int)=(p.length:Int)+1:=by simp
    rw[ec] at hg
    rw[rb,w64 (i:=(p.length:Int)+1) (by omega) (by omega)]
    refine Ev.neg (by omega) (Ev.pos (by omega) (Ev.cbind _ (cmpStr_eq a b) ?_))
    have hc:cmpR (a::s) (b::t)=if ltS a b=true then -1 else if bts a=bts b then cmpR s t else 1:=rfl
    rw[hc]
    by_cases h1:ltS a b=true
    ·rw[if_pos h1,if_pos h1]
     exact Ev.neg (by omega) (Ev.const rfl)
    ·rw[if_neg h1,if_neg h1]
     by_cases h2:bts a=bts b
     ·rw[if_pos h2,if_pos h2]
      exact Ev.pos rfl hg
     ·rw[if_neg h2,if_neg h2]
      exact Ev.neg (by omega) (Ev.const rfl)
 simpa using main x y [] [] rfl rfl rfl
theorem compareNames_eq (a b:ByteArray) (ha:a.size≤1048576) (hb:b.size≤1048576):Ev (fun k=>ce_.f k a b) (cmpN a b):=by
 have la:=labels_len a
 have lb:=labels_len b
 unfold ce_.f
 refine Ev.bind' _ (labelsOf_eq a ha) (Ev.bind' _ (labelsOf_eq b hb) (Ev.bind' _ (reverse_eq _ (by omega)) (Ev.bind' _ (reverse_eq _ (by omega)) (Ev.bind' _ (sliceCompare_eq _ _ (by simp;omega) (by simp;omega)) (Ev.const rfl)))))
theorem nameOk_byte {s:ByteArray} (h:nameOk s=true) {b:UInt8} (hb:b∈bts s):b=46∨b=42∨okB b=true:=by
 have hl:=nameOk_labels' h
 rw[List.all_eq_true] at hl
 unfold labels at hl
 by_cases he:bts s=[]
 ·rw[he] at hb;cases hb
 ·rw[if_neg he] at hl
  rcases splitC_mem 46 (bts s) [] b (Or.inr hb) with h2|⟨x,hx,h2⟩
  ·exact Or.inl h2
  ·rcases labelOk_in (hl x hx) h2 with h3|h3
   ·rw[h3] at h2
    simp only[List.mem_singleton] at h2
    exact Or.inr (Or.inl h2)
   ·exact Or.inr (Or.inr h3)
theorem target_no32 {s:ByteArray} (h:(32:UInt8)∈bts s):targetOk s=false:=by
 cases ht:targetOk s with
 | false=>rfl
 | true =>
  rcases nameOk_byte (cp_ ht) h with h2|h2|h2
  ·cases h2
  ·cases h2
  ·exact absurd h2 (by decide)
theorem target_empty:targetOk (⟨#[]⟩:ByteArray)=false:=by
 unfold targetOk
 have:bts (⟨#[]⟩:ByteArray)=[]:=rfl
 simp[this]
theorem wireB_small {s:ByteArray} (h:targetOk s=true):(wireB s).size≤488:=(labelBytes_eq s (cp_ h)).2
def tgt (kind:Int):Bool:=decide (kind=2∨kind=5)
theorem specJ1_eq (kind:Int) (s:ByteArray) (hs:s.size≤1048576) (h1:kind≠1):∃B,Ev (fun k=>ai_.j1 k s kind (tgt kind)) (B,dataOk kind s)∧(dataOk kind s=true→B=dataB kind s):=by
 have hz:=aN_ s
 unfold dataOk dataB
 rw[if_neg h1,if_neg h1]
 by_cases ht:kind=2∨kind=5
 ·rw[if_pos ht,if_pos ht,show tgt kind=true from decide_eq_true ht]
  cases hk:targetOk s with
  | false =>
   refine⟨(⟨#[]⟩:ByteArray),Ev.succ ?_,fun h=>by cases h⟩
   ·simp only[ai_.j1]
    refine Ev.pos (by first|rfl|trivial) (Ev.bind' _ (specTarget_eq s hs) ?_)
    rw[hk]
    exact Ev.a4_ (Ev.const rfl)
  | true =>
   refine⟨_,Ev.succ ?_,fun _=>rfl⟩
   simp only[ai_.j1]
   refine Ev.pos (by first|rfl|trivial) (Ev.bind' _ (specTarget_eq s hs) ?_)
   rw[hk]
   exact Ev.b_ (Ev.bind' _ (l2Bytes_eq s (cp_ hk)) (Ev.const rfl))
 ·rw[if_neg ht,if_neg ht,show tgt kind=false from decide_eq_false ht]
  by_cases h6:kind=6
  ·rw[if_pos h6,if_pos h6]
   refine⟨byt4 (numOf (bts s)),Ev.succ ?_,fun _=>rfl⟩
   simp only[ai_.j1]
   refine Ev.neg (by simp) (Ev.pos h6 (Ev.bind' _ (l1Int_eq s hs) (Ev.bind' _ (number4_eq _) (Ev.cbind _ (l1In_eq _ _ _) (Ev.const ?_)))))
   rw[in255]
  ·rw[if_neg h6,if_neg h6]
   by_cases h15:kind=15
   ·rw[if_pos h15,if_pos h15]
    have step:∀r,Ev (fun k=>if ((splitC 32 [] (bts s)).length:Int)=2 then(if 0<((splitC 32 [] (bts s)).length:Int) then((aS_.f k (rdOf ByteArray.empty (splitC 32 [] (bts s)) 0)).bind fun t175=>((bx_.f t175 0 65535).bind fun t176=>(if t176=true then(if 1<((splitC 32 [] (bts s)).length:Int) then((bk_.f k (rdOf ByteArray.empty (splitC 32 [] (bts s)) 1)).bind fun t178=>(ai_.j2 k (splitC 32 [] (bts s)) (!t178))) else(none)) else(ai_.j2 k (splitC 32 [] (bts s)) true)))) else(none)) else(ai_.j2 k (splitC 32 [] (bts s)) true)) r→Ev (fun k=>ai_.j1 k s kind false) r:=by
     intro r h
     apply Ev.succ
     simp only[ai_.j1]
     exact Ev.neg (by simp) (Ev.neg h6 (Ev.pos h15 (Ev.bind' _ (specSplitC_eq 32 s hs) h)))
    have hbad:∀L,Ev (fun k=>ai_.j2 k L true) ((⟨#[]⟩:ByteArray),false):=by
     intro L
     apply Ev.succ
     simp only[ai_.j2]
     exact Ev.pos (by first|rfl|trivial) (Ev.const rfl)
    unfold mxOk mxB
    cases hc:cutB 32 (bts s) with
    | none =>
     refine⟨(⟨#[]⟩:ByteArray),step _ ?_,fun h=>by cases h⟩
     ·rw[cM_ 32 (bts s) [] (cutB_none hc)]
      exact Ev.neg (by simp) (hbad _)
    | some pq =>
     obtain⟨p,q⟩:=pq
     obtain⟨e,hp⟩:=cF_ hc
     have hlen:(bts s).length=p.length+(q.length+1):=by rw[e];simp
     have hsp:splitC 32 [] (bts s)=⟨p.toArray⟩::splitC 32 [] q:=by
      rw[e,ca_ 32 q p [] hp]
      rfl
     simp only
     by_cases hq:(32:UInt8)∈q
     ·have htq:targetOk ⟨q.toArray⟩=false:=target_no32 (by rw[bc_];exact hq)
      rw[htq,Bool.and_false]
      refine⟨(⟨#[]⟩:ByteArray),step _ ?_,fun h=>by cases h⟩
      ·have h2:=splitC_two 32 q [] hq
       rw[hsp]
       exact Ev.neg (by simp only[List.length_cons];omega) (hbad _)
     ·rw[cM_ 32 q [] hq] at hsp
      have hps:(⟨p.toArray⟩:ByteArray).size≤1048576:=by rw[aN_,bc_];omega
      have hqs:(⟨q.toArray⟩:ByteArray).size≤1048576:=by rw[aN_,bc_];omega
      have hsp2:splitC 32 [] (bts s)=[⟨p.toArray⟩,⟨q.toArray⟩]:=hsp
      have r0:rdOf ByteArray.empty ([⟨p.toArray⟩,⟨q.toArray⟩]:List ByteArray) 0=⟨p.toArray⟩:=rfl
      have r1:rdOf ByteArray.empty ([⟨p.toArray⟩,⟨q.toArray⟩]:List ByteArray) 1=⟨q.toArray⟩:=rfl
      have hn:=l1Int_eq ⟨p.toArray⟩ hps
      rw[bc_] at hn
      cases hk:numOk p 65535&&targetOk ⟨q.toArray⟩ with
      | false =>
       refine⟨(⟨#[]⟩:ByteArray),step _ ?_,fun h=>by cases h⟩
       ·rw[hsp2,r0,r1]
        refine Ev.pos (by simp) (Ev.pos (by simp) (Ev.bind' _ hn (Ev.cbind _ (l1In_eq _ _ _) ?_)))
        rw[in255]
        cases hp2:numOk p 65535 with
        | false=>exact Ev.a4_ (hbad _)
        | true =>
         rw[hp2,Bool.true_and] at hk
         refine Ev.b_ (Ev.pos (by simp) (Ev.bind' _ (specTarget_eq _ hqs) ?_))
         rw[hk]
         exact hbad _
      | true =>
       simp only[Bool.and_eq_true] at hk
       refine⟨byt2 (numOf p)++(wireB ⟨q.toArray⟩++(⟨#[0]⟩:ByteArray)),step _ ?_,fun _=>rfl⟩
       rw[hsp2,r0,r1]
       refine Ev.pos (by simp) (Ev.pos (by simp) (Ev.bind' _ hn (Ev.cbind _ (l1In_eq _ _ _) ?_)))
       rw[in255,hk.1]
       refine Ev.b_ (Ev.pos (by simp) (Ev.bind' _ (specTarget_eq _ hqs) ?_))
       rw[hk.2]
       apply Ev.succ
       simp only[ai_.j2,r0,r1]
       have hw:=wireB_small hk.2
       have h0:(⟨#[0]⟩:ByteArray).size=1:=rfl
       have hb2:=byt2_size (numOf p)
       refine Ev.neg (by simp) (Ev.pos (by simp) (Ev.bind' _ hn (Ev.bind' _ (number2_eq _) (Ev.pos (by simp) (Ev.bind' _ (l2Bytes_eq _ (cp_ hk.2)) (Ev.pos ?_ (Ev.const rfl)))))))
       rw[b9_,h0,hb2]
       omega
   ·rw[if_neg h15,if_neg h15]
    by_cases h16:kind=16
    ·rw[if_pos h16,if_pos h16]
     have main:Ev (fun k=>ai_.l1 k s 0) (if (bts s).all txtC=true then(byt1 (s.size:Int)++s,decide ((s.size:Int)≤30)) else((⟨#[]⟩:ByteArray),false)):=by
      refine Ev.eq_ (bo_ (bts s) (fun k (_:Unit) i=>ai_.l1 k s i) (fun _ t=>if t.all txtC=true then(byt1 (s.size:Int)++s,decide ((s.size:Int)≤30)) else((⟨#[]⟩:ByteArray),false)) (fun _ _=>True) ?_ ?_ () trivial) rfl
      ·intro _ _
       apply Ev.succ
       simp only[ai_.l1]
       have hb1:(strOfNums [(s.size:Int) % 256]).size=1:=strOfNums_size _
       exact Ev.neg (by omega) (Ev.cbind _ rfl (Ev.pos (by omega) (Ev.const (by simp[byt1]))))
      ·intro p b t _ e _ ih
       have hm:=br_ e
       apply Ev.succ
       simp only[ai_.l1]
       refine Ev.pos (by omega) (Ev.pos (by omega) ?_)
       rw[bt_mid e,w64 (i:=(p.length:Int)+1) (by omega) (by omega)]
       by_cases c1:(b.toNat:Int)<32
       ·refine Ev.pos c1 (Ev.const ?_)
        have:txtC b=false:=by unfold txtC;simp;omega
        simp[this]
       ·refine Ev.neg c1 ?_
        by_cases c2:(b.toNat:Int) > 126
        ·refine Ev.pos c2 (Ev.const ?_)
         have:txtC b=false:=by unfold txtC;simp;omega
         simp[this]
        ·refine Ev.neg c2 (Ev.eq_ (ih () trivial) ?_)
         have:txtC b=true:=by unfold txtC;simp;omega
         simp[this]
     have jj:∀r,Ev (fun k=>ai_.l1 k s 0) r→Ev (fun k=>ai_.j1 k s kind false) r:=by
      intro r h
      apply Ev.succ
      simp only[ai_.j1]
      exact Ev.neg (by simp) (Ev.neg h6 (Ev.neg h15 (Ev.pos h16 h)))
     refine⟨if (bts s).all txtC=true then byt1 (s.size:Int)++s else(⟨#[]⟩:ByteArray),jj _ (Ev.eq_ main ?_),?_⟩
     ·unfold txtOk
      by_cases ha:(bts s).all txtC=true
      ·rw[if_pos ha,if_pos ha,ha]
       have:decide ((s.size:Int)≤30)=decide ((bts s).length≤30):=decide_eq_decide.mpr (by omega)
       rw[this,Bool.true_and]
      ·rw[if_neg ha,if_neg ha]
       simp[ha]
     ·intro h
      unfold txtOk at h
      simp only[Bool.and_eq_true] at h
      rw[if_pos h.1]
    ·rw[if_neg h16]
     refine⟨(⟨#[]⟩:ByteArray),Ev.succ ?_,fun h=>by cases h⟩
     ·simp only[ai_.j1]
      exact Ev.neg (by simp) (Ev.neg h6 (Ev.neg h15 (Ev.neg h16 (Ev.const rfl))))
theorem specData_eq (kind:Int) (s:ByteArray) (hs:s.size≤1048576):∃B,Ev (fun k=>ai_.f k kind s) (B,dataOk kind s)∧(dataOk kind s=true→B=dataB kind s):=by
 by_cases h1:kind=1
 ·subst h1
  obtain⟨B,h2,h3⟩:=specA_eq s hs
  have e1:dataOk 1 s=aOk s:=by unfold dataOk;rw[if_pos rfl]
  have e2:dataB 1 s=aB s:=by unfold dataB;rw[if_pos rfl]
  rw[e1,e2]
  exact⟨B,h2,h3⟩
 ·obtain⟨B,h2,h3⟩:=specJ1_eq kind s hs h1
  refine⟨B,?_,h3⟩
  unfold ai_.f
  refine Ev.neg h1 ?_
  by_cases h22:kind=2
  ·refine Ev.pos h22 ?_
   have:(kind==2)=tgt kind:=by unfold tgt;simp[h22]
   rw[this]
   exact h2
  ·refine Ev.neg h22 ?_
   have:(kind==5)=tgt kind:=by
    unfold tgt
    by_cases h5:kind=5<;>simp[h22,h5]
   rw[this]
   exact h2
theorem txt_any (s:ByteArray):(bytesOf s).any (fun n=>decide (n<32)||decide (n > 126)) = !(bts s).all txtC:=by
 unfold bytesOf
 show((bts s).map fun b=>(b.toNat:Int)).any _=_
 rw[List.any_map]
 induction bts s with
 | nil=>rfl
 | cons b t ih =>
  simp only[List.any_cons,List.all_cons,ih,Bool.not_and,Function.comp]
  congr 1
  unfold txtC
  by_cases h1:(b.toNat:Int)<32
  ·have h2:¬32≤b.toNat:=by omega
   simp[h1,h2]
  ·have h2:32≤b.toNat:=by omega
   by_cases h3:(b.toNat:Int) > 126
   ·have h4:¬b.toNat≤126:=by omega
    simp[h1,h2,h3,h4]
   ·have h4:b.toNat≤126:=by omega
    simp[h1,h2,h3,h4]
theorem implJ1_eq (kind:Int) (s:ByteArray) (hs:s.size≤1048576) (h1:kind≠1):Ev (fun k=>aB_.j1 k s kind (tgt kind)) (if dataOk kind s=true then(dataB kind s,true) else((⟨#[]⟩:ByteArray),false)):=by
 have hz:=aN_ s
 have h0:(⟨#[0]⟩:ByteArray).size=1:=rfl
 unfold dataOk dataB
 rw[if_neg h1,if_neg h1]
 by_cases ht:kind=2∨kind=5
 ·rw[if_pos ht,if_pos ht,show tgt kind=true from decide_eq_true ht]
  apply Ev.succ
  simp only[aB_.j1]
  refine Ev.pos (by first|rfl|trivial) (Ev.bind' _ (isTarget_eq s hs) ?_)
  cases hk:targetOk s with
  | false=>exact Ev.a4_ (Ev.const rfl)
  | true =>
   have hw:=labelBytes_eq s (cp_ hk)
   exact Ev.b_ (Ev.bind' _ hw.1 (Ev.pos (by have:=hw.2;omega) (Ev.const rfl)))
 ·rw[if_neg ht,if_neg ht,show tgt kind=false from decide_eq_false ht]
  by_cases h6:kind=6
  ·rw[if_pos h6,if_pos h6]
   obtain⟨v,hv,hv2⟩:=numberIn_eq s hs 4294967295 (by omega)
   apply Ev.succ
   simp only[aB_.j1]
   refine Ev.neg (by simp) (Ev.pos h6 (Ev.cbind _ hv ?_))
   cases hn:numOk (bts s) 4294967295 with
   | false=>exact Ev.a4_ (Ev.const rfl)
   | true =>
    have:=hv2 hn
    subst this
    exact Ev.b_ (Ev.bind' _ (big4_eq _) (Ev.const rfl))
  ·rw[if_neg h6,if_neg h6]
   have hbad:∀a b,Ev (fun k=>aB_.j2 k a b true) ((⟨#[]⟩:ByteArray),false):=by
    intro a b
    apply Ev.succ
    simp only[aB_.j2]
    exact Ev.pos (by first|rfl|trivial) (Ev.const rfl)
   by_cases h15:kind=15
   ·rw[if_pos h15,if_pos h15]
    unfold mxOk mxB
    have hcut:=strCut32 s hs
    cases hc:cutB 32 (bts s) with
    | none =>
     rw[hc] at hcut
     simp only at hcut
     obtain⟨v,hv,hv2⟩:=numberIn_eq s hs 65535 (by omega)
     apply Ev.succ
     simp only[aB_.j1]
     refine Ev.neg (by simp) (Ev.neg h6 (Ev.pos h15 (Ev.cbind _ hcut (Ev.cbind _ hv ?_))))
     cases hn:numOk (bts s) 65535 with
     | false=>exact Ev.a4_ (Ev.eq_ (hbad _ _) rfl)
     | true =>
      refine Ev.b_ (Ev.bind' _ (isTarget_eq (⟨#[]⟩:ByteArray) (by decide)) ?_)
      rw[target_empty]
      exact Ev.eq_ (hbad _ _) rfl
    | some pq =>
     obtain⟨p,q⟩:=pq
     rw[hc] at hcut
     simp only at hcut
     obtain⟨e,hp⟩:=cF_ hc
     have hlen:(bts s).length=p.length+(q.length+1):=by rw[e];simp
     have hps:(⟨p.toArray⟩:ByteArray).size≤1048576:=by rw[aN_,bc_];omega
     have hqs:(⟨q.toArray⟩:ByteArray).size≤1048576:=by rw[aN_,bc_];omega
     obtain⟨v,hv,hv2⟩:=numberIn_eq ⟨p.toArray⟩ hps 65535 (by omega)
     rw[bc_] at hv hv2
     apply Ev.succ
     simp only[aB_.j1]
     refine Ev.neg (by simp) (Ev.neg h6 (Ev.pos h15 (Ev.cbind _ hcut (Ev.cbind _ hv ?_))))
     cases hn:numOk p 65535 with
     | false=>exact Ev.a4_ (Ev.eq_ (hbad _ _) (by simp))
     | true =>
      have:=hv2 hn
      subst this
      refine Ev.b_ (Ev.bind' _ (isTarget_eq _ hqs) ?_)
      cases hk:targetOk ⟨q.toArray⟩ with
      | false=>exact Ev.eq_ (hbad _ _) (by simp)
      | true =>
       have hw:=labelBytes_eq _ (cp_ hk)
       have hb2:=byt2_size (numOf p)
       apply Ev.succ
       simp only[aB_.j2]
       refine Ev.neg (by simp) (Ev.bind' _ (big2_eq _) (Ev.bind' _ hw.1 (Ev.pos (by have:=hw.2;omega) (Ev.pos (by rw[b9_,hb2];have:=hw.2;omega) (Ev.const ?_)))))
       simp[ByteArray.append_assoc]
   ·rw[if_neg h15,if_neg h15]
    by_cases h16:kind=16
    ·rw[if_pos h16,if_pos h16]
     apply Ev.succ
     simp only[aB_.j1]
     refine Ev.neg (by simp) (Ev.neg h6 (Ev.neg h15 (Ev.pos h16 ?_)))
     unfold txtOk
     by_cases h30:(s.size:Int) > 30
     ·refine Ev.pos h30 (Ev.const ?_)
      have:¬(bts s).length≤30:=by omega
      simp[this]
     ·have h30':(bts s).length≤30:=by omega
      refine Ev.neg h30 (Ev.pos (by omega) (Ev.bind' _ (aW_.any (bytesOf s) (fun n=>decide (n<32)||decide (n > 126)) (by rw[cO_];omega) ?_) ?_))
      ·intro n _
       unfold b8_.f
       by_cases hn:n<32
       ·exact Ev.pos hn (Ev.const (by simp[hn]))
       ·exact Ev.neg hn (Ev.const (by simp[hn]))
      ·rw[txt_any]
       have hb1:=byt1_size (s.size:Int)
       cases ha:(bts s).all txtC with
       | false=>exact Ev.b_ (Ev.const (by simp))
       | true=>exact Ev.a4_ (Ev.bind' _ (big1_eq _) (Ev.pos (by omega) (Ev.const (by simp[h30']))))
    ·rw[if_neg h16]
     apply Ev.succ
     simp only[aB_.j1]
     exact Ev.neg (by simp) (Ev.neg h6 (Ev.neg h15 (Ev.neg h16 (Ev.const rfl))))
theorem implData_eq (kind:Int) (s:ByteArray) (hs:s.size≤1048576):Ev (fun k=>aB_.f k kind s) (if dataOk kind s=true then(dataB kind s,true) else((⟨#[]⟩:ByteArray),false)):=by
 by_cases h1:kind=1
 ·subst h1
  have e1:dataOk 1 s=aOk s:=by unfold dataOk;rw[if_pos rfl]
  have e2:dataB 1 s=aB s:=by unfold dataB;rw[if_pos rfl]
  rw[e1,e2]
  exact implA_eq s hs
 ·have h2:=implJ1_eq kind s hs h1
  unfold aB_.f
  refine Ev.neg h1 ?_
  by_cases h22:kind=2
  ·refine Ev.pos h22 ?_
   have:(kind==2)=tgt kind:=by unfold tgt;simp[h22]
   rw[this]
   exact h2
  ·refine Ev.neg h22 ?_
   have:(kind==5)=tgt kind:=by
    unfold tgt
    by_cases h5:kind=5<;>simp[h22,h5]
   rw[this]
   exact h2
theorem dataBytes_eq (kind:Int) (s:ByteArray) (hs:s.size≤1048576) (h:dataOk kind s=true):Ev (fun k=>b5_.f k kind s) (dataB kind s):=by
 unfold b5_.f
 have:=implData_eq kind s hs
 rw[if_pos h] at this
 exact Ev.bind' _ this (Ev.pos rfl (Ev.const rfl))
theorem numOk_len {l:List UInt8} {m:Int} (h:numOk l m=true):l.length≤10∧isNumeral l=true∧(valF 0 l:Int)≤m:=by
 unfold numOk numOf at h
 simp only[decide_eq_true_eq] at h
 by_cases hn:isNumeral l=true∧l.length≤10
 ·rw[if_pos hn] at h
  exact⟨hn.2,hn.1,h.2⟩
 ·rw[if_neg hn] at h
  omega
theorem numOk_digits {l:List UInt8} {m:Int} (n:Nat) (hn:1≤n) (hm:m<10 ^ n) (h:numOk l m=true):l.length≤n:=by
 obtain⟨h1,h2,h3⟩:=numOk_len h
 rcases Nat.lt_or_ge n l.length with h4|h4
 ·have:=numeral_great l h2 (by omega)
  have h5:10 ^ n≤10 ^ (l.length - 1):=Nat.pow_le_pow_right (by decide) (by omega)
  have h6:((10 ^ n:Nat):Int)≤((valF 0 l:Nat):Int):=by omega
  have h7:((10 ^ n:Nat):Int)=(10:Int) ^ n:=by simp
  omega
 ·exact h4
theorem splitC_total (c:UInt8):∀(l cur:List UInt8),cur.length+l.length+1=((splitC c cur l).map ByteArray.size).sum+(splitC c cur l).length
 | [],cur=>by
  simp only[splitC,List.map_cons,List.map_nil,List.sum_cons,List.sum_nil,List.length_cons,List.length_nil]
  rw[aN_,bc_]
  omega
 | b::l,cur=>by
  unfold splitC
  by_cases hb:b=c
  ·rw[if_pos hb]
   have:=splitC_total c l []
   simp only[List.map_cons,List.sum_cons,List.length_cons,List.length_nil] at this ⊢
   rw[aN_,bc_]
   omega
  ·rw[if_neg hb]
   have:=splitC_total c l (cur++[b])
   simp only[List.length_cons,List.length_append,List.length_nil] at this ⊢
   omega
theorem data_small {kind:Int} {s:ByteArray} (h:dataOk kind s=true):s.size≤100:=by
 have hz:=aN_ s
 unfold dataOk at h
 split at h
 ·unfold aOk at h
  simp only[Bool.and_eq_true,decide_eq_true_eq,List.all_eq_true] at h
  have ht:=splitC_total 46 (bts s) []
  have h4:(splitC 46 [] (bts s)).length=4:=h.2
  have hs:∀x∈splitC 46 [] (bts s),x.size≤3:=by
   intro x hx
   have:=numOk_digits 3 (by omega) (by decide) (h.1 x hx)
   rw[aN_]
   exact this
  have hsum:∀(L:List ByteArray),(∀x∈L,x.size≤3)→(L.map ByteArray.size).sum≤3 * L.length:=by
   intro L
   induction L with
   | nil=>intro _;simp
   | cons x t ih =>
    intro hL
    have h1:=hL x (by simp)
    have h2:=ih (fun y hy=>hL y (by simp[hy]))
    simp only[List.map_cons,List.sum_cons,List.length_cons]
    omega
  have:=hsum _ hs
  simp only[List.length_nil] at ht
  omega
 ·split at h
  ·have:=(cS_ (cp_ h)).1
   omega
  ·split at h
   ·have:=(numOk_len h).1
    omega
   ·split at h
    ·unfold mxOk at h
     cases hc:cutB 32 (bts s) with
     | none=>rw[hc] at h;cases h
     | some pq =>
      obtain⟨p,q⟩:=pq
      rw[hc] at h
      simp only[Bool.and_eq_true] at h
      obtain⟨e,_⟩:=cF_ hc
      have h1:=(numOk_len h.1).1
      have h2:=(cS_ (cp_ h.2)).1
      rw[aN_,bc_] at h2
      have hlen:(bts s).length=p.length+(q.length+1):=by rw[e];simp
      omega
    ·split at h
     ·unfold txtOk at h
      simp only[Bool.and_eq_true,decide_eq_true_eq] at h
      omega
     ·cases h
def recOk (a:ByteArray) (b c:Int) (d:ByteArray):Bool:=dataOk b d&&nameOk a&&inR c 0 100000
theorem specRec_eq (a:ByteArray) (b c:Int) (d:ByteArray) (ha:a.size≤1048576) (hd:d.size≤1048576):Ev (fun k=>bO_.f k a b c d) (recOk a b c d):=by
 unfold bO_.f recOk
 obtain⟨B,h1,h2⟩:=specData_eq b d hd
 refine Ev.bind' _ h1 ?_
 cases hk:dataOk b d with
 | false=>exact Ev.a4_ (Ev.const rfl)
 | true =>
  refine Ev.b_ (Ev.bind' _ (specGoodName_eq a ha) ?_)
  cases hn:nameOk a with
  | false=>exact Ev.a4_ (Ev.const rfl)
  | true=>exact Ev.b_ (Ev.cbind _ (l1In_eq _ _ _) (Ev.const (by simp)))
theorem implRec_eq (a:ByteArray) (b c:Int) (d:ByteArray) (ha:a.size≤1048576) (hd:d.size≤1048576):Ev (fun k=>bN_.f k a b c d) (recOk a b c d):=by
 unfold bN_.f recOk
 refine Ev.bind' _ (implGoodName_eq a ha) ?_
 cases hn:nameOk a with
 | false=>exact Ev.a4_ (Ev.const (by simp))
 | true =>
  refine Ev.b_ (Ev.cbind _ (within_eq _ _ _) ?_)
  cases hr:inR c 0 100000 with
  | false=>exact Ev.a4_ (Ev.const (by simp))
  | true =>
   refine Ev.b_ ?_
   by_cases h100:(d.size:Int) > 100
   ·refine Ev.pos h100 (Ev.const ?_)
    cases hk:dataOk b d with
    | false=>rfl
    | true=>have:=data_small hk;omega
   ·refine Ev.neg h100 (Ev.bind' _ (implData_eq b d hd) (Ev.const ?_))
    cases hk:dataOk b d<;>simp
def cmpI (a b:Int):Int:=if a<b then -1 else if a > b then 1 else 0
def cmpB (a b:List UInt8):Int:=if Op.bytesLess a b=true then -1 else if a=b then 0 else 1
def cmpRec (a b:aa_):Int :=
 if cmpN a.f0 b.f0=0 then(if a.f1=b.f1 then(if bts (dataB a.f1 a.f3)=bts (dataB b.f1 b.f3) then cmpI a.f2 b.f2
  else(if Op.bytesLess (bts (dataB a.f1 a.f3)) (bts (dataB b.f1 b.f3))=true then -1 else 1)) else(if a.f1<b.f1 then -1 else 1)) else cmpN a.f0 b.f0
def okR (r:aa_):Bool:=recOk r.f0 r.f1 r.f2 r.f3
def szR (r:aa_):Prop:=r.f0.size≤1048576∧r.f3.size≤1048576
theorem okR_data {r:aa_} (h:okR r=true):dataOk r.f1 r.f3=true:=by
 unfold okR recOk at h
 simp only[Bool.and_eq_true] at h
 exact h.1.1
theorem okR_name {r:aa_} (h:okR r=true):nameOk r.f0=true:=by
 unfold okR recOk at h
 simp only[Bool.and_eq_true] at h
 exact h.1.2
theorem less_eq (b:Bool):b4_.f b=some (if b=true then -1 else 1):=by
 unfold b4_.f
 split<;>rfl
theorem specCmpRec_eq (a b:aa_) (ha:szR a) (hb:szR b) (ga:okR a=true) (gb:okR b=true):Ev (fun k=>co_.f k a.f0 a.f1 a.f2 a.f3 b.f0 b.f1 b.f2 b.f3) (cmpRec a b):=by
 unfold co_.f
 refine Ev.bind' _ (specCompare_eq a.f0 b.f0 ha.1 hb.1 (nameOk_labels' (okR_name ga)) (nameOk_labels' (okR_name gb))) ?_
 by_cases hn:cmpN a.f0 b.f0=0
 ·refine Ev.pos hn ?_
  obtain⟨A,h1,h2⟩:=specData_eq a.f1 a.f3 ha.2
  obtain⟨B,h3,h4⟩:=specData_eq b.f1 b.f3 hb.2
  have hA:=h2 (okR_data ga)
  have hB:=h4 (okR_data gb)
  subst hA
  subst hB
  refine Ev.bind' _ h1 (Ev.bind' _ h3 ?_)
  simp only[aG_]
  by_cases ht:a.f1=b.f1
  ·refine Ev.pos ht ?_
   by_cases hd:bts (dataB a.f1 a.f3)=bts (dataB b.f1 b.f3)
   ·rw[show cmpRec a b=cmpI a.f2 b.f2 from by unfold cmpRec;rw[if_pos hn,if_pos ht,if_pos hd]]
    refine Ev.pos hd ?_
    unfold cmpI
    by_cases hq:a.f2=b.f2
    ·exact Ev.pos hq (Ev.const (by rw[hq];simp))
    ·refine Ev.neg hq (Ev.cbind _ (less_eq _) (Ev.const ?_))
     by_cases hl:a.f2<b.f2
     ·simp[hl]
     ·have:a.f2 > b.f2:=by omega
      simp[hl,this]
   ·rw[show cmpRec a b=(if Op.bytesLess (bts (dataB a.f1 a.f3)) (bts (dataB b.f1 b.f3))=true then -1 else 1) from by unfold cmpRec;rw[if_pos hn,if_pos ht,if_neg hd]]
    exact Ev.neg hd (Ev.cbind _ (less_eq _) (Ev.const rfl))
  ·rw[show cmpRec a b=(if a.f1<b.f1 then -1 else 1) from by unfold cmpRec;rw[if_pos hn,if_neg ht]]
   refine Ev.neg ht (Ev.cbind _ (less_eq _) (Ev.const ?_))
   by_cases hl:a.f1<b.f1<;>simp[hl]
 ·rw[show cmpRec a b=cmpN a.f0 b.f0 from by unfold cmpRec;rw[if_neg hn]]
  exact Ev.neg hn (Ev.const rfl)
theorem bytesLess_irr:∀(a:List UInt8),Op.bytesLess a a=false
 | []=>rfl
 | x::a=>by
  have h:¬x<x:=by simp
  unfold Op.bytesLess
  simp[h,bytesLess_irr a]
theorem compareBytes_eq:∀(a b:List UInt8),Go.Lib.compareBytes a b=cmpB a b
 | [],[]=>rfl
 | [],y::b=>rfl
 | x::a,[]=>by
  unfold Go.Lib.compareBytes cmpB
  have:Op.bytesLess (x::a) []=false:=rfl
  rw[this]
  simp
 | x::a,y::b=>by
  have ih:=compareBytes_eq a b
  unfold Go.Lib.compareBytes
  unfold cmpB at ih ⊢
  have e:Op.bytesLess (x::a) (y::b)=(decide (x<y)||(x==y&&Op.bytesLess a b)):=rfl
  rw[e]
  by_cases h1:x<y
  ·rw[if_pos h1];simp[h1]
  ·rw[if_neg h1]
   by_cases h2:y<x
   ·rw[if_pos h2]
    have h3:¬x=y:=by
     intro h
     subst h
     exact h1 h2
    simp[h1,h3]
   ·rw[if_neg h2]
    have h3:x=y:=by
     apply UInt8.toNat_inj.mp
     have h4:¬x.toNat<y.toNat:=fun h=>h1 (UInt8.lt_iff_toNat_lt.mpr h)
     have h5:¬y.toNat<x.toNat:=fun h=>h2 (UInt8.lt_iff_toNat_lt.mpr h)
     omega
    subst h3
    rw[ih]
    simp[h1]
def orI:List Int→Int
 | []=>0
 | x::t=>if x=0 then orI t else x
theorem cmpOr_eq (l:List Int) (hl:l.length≤1048576):Ev (fun k=>bJ_.f k l) (orI l):=by
 unfold bJ_.f
 refine Ev.eq_ (bo_ l (fun k (_:Unit) i=>bJ_.l0 k 0 l (l.length:Int) i) (fun _ t=>orI t) (fun _ _=>True) ?_ ?_ () trivial) rfl
 ·intro _ _
  apply Ev.succ
  simp only[bJ_.l0]
  exact Ev.neg (by omega) (Ev.const rfl)
 ·intro p x t _ e _ ih
  have hm:=br_ e
  apply Ev.succ
  simp only[bJ_.l0,rd_mid' e]
  refine Ev.pos hm.1 (Ev.pos (by omega) (Ev.pos hm.1 ?_))
  rw[w64 (i:=(p.length:Int)+1) (by omega) (by omega)]
  by_cases h:x=0
  ·exact Ev.pos h (Ev.eq_ (ih () trivial) (by simp[orI,h]))
  ·exact Ev.neg h (Ev.const (by simp[orI,h]))
theorem cmpInt_eq (a b:Int):b0_.f a b=some (cmpI a b):=by
 unfold b0_.f bv_.f cmpI
 simp only[Option.bind_some,bne_self_eq_false,Bool.false_eq_true,if_false]
 split
 ·rfl
 ·split<;>rfl
theorem keys_eq (a b:aa_) (ha:szR a) (hb:szR b):Ev (fun k=>bu_.f k a.f0 a.f1 a.f2 a.f3 b.f0 b.f1 b.f2 b.f3) (orI [cmpN a.f0 b.f0,cmpI a.f1 b.f1]):=by
 unfold bu_.f
 exact Ev.bind' _ (compareNames_eq a.f0 b.f0 ha.1 hb.1) (Ev.cbind _ (cmpInt_eq _ _) (Ev.bind' _ (cmpOr_eq _ (by simp)) (Ev.const rfl)))
theorem cmpI_zero {a b:Int}:cmpI a b=0↔a=b:=by
 unfold cmpI
 by_cases h1:a<b
 ·simp[h1];omega
 ·by_cases h2:a > b
  ·simp[h1,h2];omega
  ·simp[h1,h2];omega
theorem implCmpRec_eq (a b:aa_) (ha:szR a) (hb:szR b) (ga:okR a=true) (gb:okR b=true):Ev (fun k=>bd_.f k a.f0 a.f1 a.f2 a.f3 b.f0 b.f1 b.f2 b.f3) (cmpRec a b):=by
 unfold bd_.f
 refine Ev.bind' _ (keys_eq a b ha hb) (Ev.bind' _ (dataBytes_eq _ _ ha.2 (okR_data ga)) (Ev.bind' _ (dataBytes_eq _ _ hb.2 (okR_data gb)) (Ev.cbind (cmpB (bts (dataB a.f1 a.f3)) (bts (dataB b.f1 b.f3))) ?_ (Ev.cbind _ (cmpInt_eq _ _) (Ev.bind' _ (cmpOr_eq _ (by simp)) (Ev.const ?_))))))
 ·unfold strings_Compare.f
  rw[compareBytes_eq]
  rfl
 ·rw[Option.some.injEq]
  have o3:∀x y z:Int,orI [orI [cmpN a.f0 b.f0,x],y,z]=if cmpN a.f0 b.f0=0 then(if x=0 then(if y=0 then z else y) else x) else cmpN a.f0 b.f0:=by
   intro x y z
   simp only[orI]
   by_cases hn:cmpN a.f0 b.f0=0
   ·by_cases hx:x=0
    ·by_cases hy:y=0
     ·by_cases hz:z=0<;>simp[hn,hx,hy,hz]
     ·simp[hn,hx,hy]
    ·simp[hn,hx]
   ·simp[hn]
  rw[o3]
  unfold cmpRec
  by_cases hn:cmpN a.f0 b.f0=0
  ·rw[if_pos hn,if_pos hn]
   by_cases ht:a.f1=b.f1
   ·rw[if_pos ht,if_pos (cmpI_zero.mpr ht)]
    unfold cmpB
    by_cases hd:bts (dataB a.f1 a.f3)=bts (dataB b.f1 b.f3)
    ·rw[if_pos hd,hd,bytesLess_irr]
     simp
    ·rw[if_neg hd]
     by_cases hl:Op.bytesLess (bts (dataB a.f1 a.f3)) (bts (dataB b.f1 b.f3))=true
     ·simp[hl,hd]
     ·simp[hl,hd]
   ·rw[if_neg ht,if_neg (fun h=>ht (cmpI_zero.mp h))]
    unfold cmpI
    by_cases hl:a.f1<b.f1
    ·simp[hl]
    ·have:a.f1 > b.f1:=by omega
     simp[hl,this]
  ·rw[if_neg hn,if_neg hn]
def riseFrom:aa_→List aa_→Bool
 | _,[]=>true
 | a,b::t=>okR b&&decide (cmpRec a b<0)&&riseFrom b t
def rises:List aa_→Bool
 | []=>true
 | a::t=>okR a&&riseFrom a t
def riseP (p:Option aa_) (l:List aa_):Bool:=match p with
 | none=>rises l
 | some a=>riseFrom a l
theorem getLast_mid {α:Type} {l p t:List α} {x:α} {d:α} (e:l=p++x::t) (hp:p≠[]):l.getD ((p.length:Int) - 1).toNat d=p.getLast hp:=by
 have h1:p=p.dropLast++[p.getLast hp]:=(List.dropLast_concat_getLast hp).symm
 have hl:0<p.length:=List.length_pos_iff.mpr hp
 have h2:((p.length:Int) - 1).toNat=p.dropLast.length:=by rw[List.length_dropLast];omega
 rw[h2]
 have e2:l=p.dropLast++(p.getLast hp::x::t):=by
  rw[e]
  conv=>lhs;rw[h1]
  simp only[List.append_assoc,List.singleton_append]
 rw[e2]
 simp[List.getD_eq_getElem?_getD]
theorem lastOpt_some {α:Type} {p:List α} (hp:p≠[]):p.getLast? = some (p.getLast hp):=List.getLast?_eq_some_getLast hp
theorem specList_eq (l:List aa_) (hl:l.length≤1048576) (hs:∀r∈l,szR r):Ev (fun k=>a5_.f k l) (rises l&&decide (l.length≤40)):=by
 unfold a5_.f
 refine Ev.eq_ (bo_ l (fun k (_:Unit) i=>a5_.l0 k l l (l.length:Int) i) (fun _ t=>riseP (l.take (l.length - t.length)).getLast? t&&decide (l.length≤40)) (fun p _=>∀r∈p,okR r=true) ?_ ?_ () (by simp)) (by simp[riseP])
 ·intro _ _
  apply Ev.succ
  simp only[a5_.l0]
  refine Ev.neg (by omega) (Ev.const ?_)
  rw[show decide ((l.length:Int)≤40)=decide (l.length≤40) from decide_eq_decide.mpr (by omega)]
  cases(List.take (l.length - ([]:List aa_).length) l).getLast?<;>simp[riseP,rises,riseFrom]
 ·intro p x t _ e hp ih
  have hm:=br_ e
  have hx:=hs x (ci_ e)
  have ht1:l.take (l.length - (x::t).length)=p:=by rw[e];simp
  have ht2:l.take (l.length - t.length)=p++[x]:=by
   have e3:l=(p++[x])++t:=by rw[e];simp
   have e4:l.length - t.length=(p++[x]).length:=by rw[hm.2.2];simp<;>omega
   rw[e4,e3,List.take_left']
   rfl
  rw[ht1]
  rw[ht2] at ih
  apply Ev.succ
  simp only[a5_.l0,a_,b1_ e]
  refine Ev.pos hm.1 (Ev.pos (by omega) (Ev.pos hm.1 (Ev.bind' (okR x) (specRec_eq _ _ _ _ hx.1 hx.2) ?_)))
  have hlast:(p++[x]).getLast? = some x:=by simp
  rw[hlast] at ih
  cases hk:okR x with
  | false =>
   refine Ev.a4_ (Ev.const ?_)
   cases p.getLast?<;>simp[riseP,rises,riseFrom,hk]
  | true =>
   refine Ev.b_ ?_
   have hgo:=ih () (by intro r hr;rcases List.mem_append.mp hr with h|h;exact hp r h;simp only[List.mem_singleton] at h;rw[h];exact hk)
   by_cases hp0:p=[]
   ·subst hp0
    refine Ev.neg (by simp) ?_
    rw[w64 (by simp) (by simp)]
    refine Ev.eq_ hgo ?_
    simp[riseP,rises,hk]
   ·have hpl:0<p.length:=List.length_pos_iff.mpr hp0
    rw[w64 (i:=(p.length:Int) - 1) (by omega) (by omega),w64 (i:=(p.length:Int)+1) (by omega) (by omega),getLast_mid e hp0]
    have hlm:p.getLast hp0∈l:=by rw[e];exact List.mem_append_left _ (List.getLast_mem hp0)
    refine Ev.pos (by omega) (Ev.pos (by omega) (Ev.pos (by omega) (Ev.bind' _ (specCmpRec_eq _ x (hs _ hlm) hx (hp _ (List.getLast_mem hp0)) hk) ?_)))
    rw[lastOpt_some hp0]
    by_cases hc:cmpRec (p.getLast hp0) x≥0
    ·refine Ev.pos hc (Ev.const ?_)
     have:¬cmpRec (p.getLast hp0) x<0:=by omega
     simp[riseP,riseFrom,this]
    ·refine Ev.neg hc (Ev.eq_ hgo ?_)
     have:cmpRec (p.getLast hp0) x<0:=by omega
     simp[riseP,riseFrom,this,hk]
theorem areRising_eq (l:List aa_) (hl:l.length≤1048576) (hs:∀r∈l,szR r):Ev (fun k=>aR_.f k l) (rises l):=by
 unfold aR_.f
 refine Ev.eq_ (bo_ l (fun k (_:Unit) i=>aR_.l0 k l l (l.length:Int) i) (fun _ t=>riseP (l.take (l.length - t.length)).getLast? t) (fun p _=>∀r∈p,okR r=true) ?_ ?_ () (by simp)) (by simp[riseP])
 ·intro _ _
  apply Ev.succ
  simp only[aR_.l0]
  refine Ev.neg (by omega) (Ev.const ?_)
  cases(List.take (l.length - ([]:List aa_).length) l).getLast?<;>simp[riseP,rises,riseFrom]
 ·intro p x t _ e hp ih
  have hm:=br_ e
  have hx:=hs x (ci_ e)
  have ht1:l.take (l.length - (x::t).length)=p:=by rw[e];simp
  have ht2:l.take (l.length - t.length)=p++[x]:=by
   have e3:l=(p++[x])++t:=by rw[e];simp
   have e4:l.length - t.length=(p++[x]).length:=by rw[hm.2.2];simp<;>omega
   rw[e4,e3,List.take_left']
   rfl
  rw[ht1]
  rw[ht2] at ih
  apply Ev.succ
  simp only[aR_.l0,a_,b1_ e]
  refine Ev.pos hm.1 (Ev.pos (by omega) (Ev.pos hm.1 (Ev.bind' (okR x) (implRec_eq _ _ _ _ hx.1 hx.2) ?_)))
  have hlast:(p++[x]).getLast? = some x:=by simp
  rw[hlast] at ih
  cases hk:okR x with
  | false =>
   refine Ev.a4_ (Ev.const ?_)
   cases p.getLast?<;>simp[riseP,rises,riseFrom,hk]
  | true =>
   refine Ev.b_ ?_
   have hgo:=ih () (by intro r hr;rcases List.mem_append.mp hr with h|h;exact hp r h;simp only[List.mem_singleton] at h;rw[h];exact hk)
   by_cases hp0:p=[]
   ·subst hp0
    refine Ev.neg (by simp) ?_
    rw[w64 (by simp) (by simp)]
    refine Ev.eq_ hgo ?_
    simp[riseP,rises,hk]
   ·have hpl:0<p.length:=List.length_pos_iff.mpr hp0
    rw[w64 (i:=(p.length:Int) - 1) (by omega) (by omega),w64 (i:=(p.length:Int)+1) (by omega) (by omega),getLast_mid e hp0]
    have hlm:p.getLast hp0∈l:=by rw[e];exact List.mem_append_left _ (List.getLast_mem hp0)
    refine Ev.pos (by omega) (Ev.pos (by omega) (Ev.pos (by omega) (Ev.bind' _ (implCmpRec_eq _ x (hs _ hlm) hx (hp _ (List.getLast_mem hp0)) hk) ?_)))
    rw[lastOpt_some hp0]
    by_cases hc:cmpRec (p.getLast hp0) x≥0
    ·refine Ev.pos hc (Ev.const ?_)
     have:¬cmpRec (p.getLast hp0) x<0:=by omega
     simp[riseP,riseFrom,this]
    ·refine Ev.neg hc (Ev.eq_ hgo ?_)
     have:cmpRec (p.getLast hp0) x<0:=by omega
     simp[riseP,riseFrom,this,hk]
def tB (s:ByteArray):List UInt8:=if bts s=[] then [46] else bts s
def dN (n:Int):List UInt8:=Go.Lib.decDigits n.toNat
def rL (r:aa_):List UInt8:=tB r.f0++32::(dN r.f2++32::(dN r.f1++32::bts r.f3))
def hL (a:ByteArray) (c:Int):List UInt8:=tB a++32::dN c
def zL (a:ByteArray) (c:Int) (l:List aa_):List UInt8:=hL a c++l.flatMap (fun r=>10::rL r)
theorem name_no {s:ByteArray} (h:nameOk s=true) {b:UInt8} (hb:b.toNat<42):b∉tB s:=by
 intro hm
 unfold tB at hm
 split at hm
 ·have:b=46:=by simpa using hm
  subst this
  exact absurd hb (by decide)
 ·rcases nameOk_byte h hm with h2|h2|h2
  ·subst h2;exact absurd hb (by decide)
  ·subst h2;exact absurd hb (by decide)
  ·simp only[okB,Bool.or_eq_true,Bool.and_eq_true,decide_eq_true_eq] at h2
   omega
theorem numeral_no {l:List UInt8} (h:isNumeral l=true) {b:UInt8} (hb:b.toNat<48):b∉l:=by
 intro hm
 simp only[isNumeral,Bool.and_eq_true,List.all_eq_true] at h
 have:=h.1.2 b hm
 simp only[isDg,Bool.and_eq_true,decide_eq_true_eq] at this
 omega
theorem dN_no (n:Int) {b:UInt8} (hb:b.toNat<48):b∉dN n:=numeral_no (dec_spells _).1 hb
theorem numOk_numeral {l:List UInt8} {m:Int} (h:numOk l m=true):isNumeral l=true:=by
 unfold numOk numOf at h
 simp only[decide_eq_true_eq] at h
 by_cases hn:isNumeral l=true∧l.length≤10
 ·exact hn.1
 ·rw[if_neg hn] at h
  omega
theorem data_no {kind:Int} {s:ByteArray} (h:dataOk kind s=true):(10:UInt8)∉bts s:=by
 intro hm
 unfold dataOk at h
 split at h
 ·simp only[aOk,Bool.and_eq_true,List.all_eq_true] at h
  rcases splitC_mem 46 (bts s) [] 10 (Or.inr hm) with h2|⟨x,hx,h2⟩
  ·exact absurd h2 (by decide)
  ·exact numeral_no (numOk_numeral (h.1 x hx)) (by decide) h2
 ·split at h
  ·have hn:=cp_ h
   have hne:bts s≠[]:=fun e=>by rw[e] at hm;cases hm
   exact name_no hn (b:=10) (by decide) (by unfold tB;rw[if_neg hne];exact hm)
  ·split at h
   ·exact numeral_no (numOk_numeral h) (by decide) hm
   ·split at h
    ·unfold mxOk at h
     split at h
     ·rename_i p q hc
      obtain⟨e,_⟩:=cF_ hc
      simp only[Bool.and_eq_true] at h
      rw[e] at hm
      rcases List.mem_append.1 hm with h2|h2
      ·exact numeral_no (numOk_numeral h.1) (by decide) h2
      ·rcases List.mem_cons.1 h2 with h3|h3
       ·exact absurd h3 (by decide)
       ·have hn:=cp_ h.2
        have hb:bts (⟨q.toArray⟩:ByteArray)=q:=bc_ q
        have hne:bts (⟨q.toArray⟩:ByteArray)≠[]:=fun e=>by rw[hb] at e;rw[e] at h3;cases h3
        exact name_no hn (b:=10) (by decide) (by unfold tB;rw[if_neg hne,hb];exact h3)
     ·cases h
    ·split at h
     ·simp only[txtOk,Bool.and_eq_true,List.all_eq_true] at h
      have:=h.1 10 hm
      simp[txtC] at this
     ·cases h
theorem kind_in {kind:Int} {s:ByteArray} (h:dataOk kind s=true):1≤kind∧kind≤16:=by
 unfold dataOk at h
 split at h
 ·omega
 ·split at h
  ·omega
  ·split at h
   ·omega
   ·split at h
    ·omega
    ·split at h
     ·omega
     ·cases h
theorem split_lines (c:UInt8) {α:Type} (f:α→List UInt8):∀(l:List α) (p:List UInt8),c∉p→(∀x∈l,c∉f x)→splitC c [] (p++l.flatMap (fun x=>c::f x))=⟨p.toArray⟩::l.map (fun x=>(⟨(f x).toArray⟩:ByteArray))
 | [],p,hp,_=>by
  rw[List.flatMap_nil,List.append_nil,cM_ c p [] hp]
  simp
 | x::l,p,hp,hl=>by
  rw[List.flatMap_cons,List.cons_append,ca_ c _ p [] hp,split_lines c f l (f x) (hl x (by simp)) (fun y hy=>hl y (by simp[hy]))]
  simp
theorem rec_no {r:aa_} (h:okR r=true):(10:UInt8)∉rL r:=by
 have hn:=okR_name h
 have hd:=okR_data h
 unfold rL
 simp only[List.mem_append,List.mem_cons,not_or]
 exact⟨name_no hn (by decide),by decide,dN_no _ (by decide),by decide,dN_no _ (by decide),by decide,data_no hd⟩
theorem head_no {a:ByteArray} (c:Int) (h:nameOk a=true):(10:UInt8)∉hL a c:=by
 unfold hL
 simp only[List.mem_append,List.mem_cons,not_or]
 exact⟨name_no h (by decide),by decide,dN_no _ (by decide)⟩
theorem zone_lines {a:ByteArray} (c:Int) {l:List aa_} (h:nameOk a=true) (hl:∀x∈l,okR x=true):splitC 10 [] (zL a c l)=⟨(hL a c).toArray⟩::l.map (fun x=>(⟨(rL x).toArray⟩:ByteArray)) :=
 split_lines 10 rL l (hL a c) (head_no c h) (fun x hx=>rec_no (hl x hx))
theorem dot_bad {a:ByteArray} (h:nameOk a=true):bts a≠[46]:=by
 intro e
 have hl:=nameOk_labels' h
 unfold labels at hl
 rw[if_neg (by rw[e];decide),e] at hl
 revert hl
 decide
def unT (s:ByteArray):ByteArray:=if bts s=[46] then(⟨#[]⟩:ByteArray) else s
theorem unT_told {a:ByteArray} (h:nameOk a=true):unT ⟨(tB a).toArray⟩=a:=by
 unfold unT
 rw[bc_]
 unfold tB
 by_cases e:bts a=[]
 ·rw[if_pos e,if_pos rfl]
  exact ch_ (by rw[e];rfl)
 ·rw[if_neg e,if_neg (dot_bad h)]
  exact mk_bts a
theorem atoi_dec (n:Int) (h0:0≤n) (h1:n≤1152921504606846976):Go.Lib.atoiAll (dN n)=.ok n:=by
 obtain⟨s1,s2⟩:=dec_spells n.toNat
 unfold dN
 generalize Go.Lib.decDigits n.toNat=l at s1 s2
 have hall:l.all isDg=true:=by
  simp only[isNumeral,Bool.and_eq_true] at s1
  exact s1.1.2
 obtain⟨b,t,rfl⟩:∃b t,l=b::t:=by
  cases l with
  | nil=>simp[isNumeral] at s1
  | cons b t=>exact⟨b,t,rfl⟩
 have hc:=hall
 simp only[List.all_cons,Bool.and_eq_true,isDg,decide_eq_true_eq] at hc
 simp only[Go.Lib.atoiAll]
 rw[if_neg (by omega),show Go.Lib.parseMag (b::t)=Go.Lib.parseUint10 0 (b::t) from by simp[Go.Lib.parseMag],parse_digits _ hall 0 (by omega)]
 have h45:¬(b.toNat=45):=by omega
 simp only[h45,not_false_eq_true,true_and,false_and,if_false]
 rw[if_neg (by omega),s2]
 congr 1
 omega
theorem numOf_dec (n:Int) (h0:0≤n) (h1:n≤100000):numOf (dN n)=n:=by
 obtain⟨s1,s2⟩:=dec_spells n.toNat
 unfold dN numOf
 have hl:(Go.Lib.decDigits n.toNat).length≤10:=by
  by_cases h2:2≤(Go.Lib.decDigits n.toNat).length
  ·have:=numeral_great _ s1 h2
   rw[s2] at this
   by_cases h10:(Go.Lib.decDigits n.toNat).length≤10
   ·exact h10
   ·have h3:10 ^ 10≤10 ^ ((Go.Lib.decDigits n.toNat).length - 1):=Nat.pow_le_pow_right (by decide) (by omega)
    omega
  ·omega
 rw[if_pos ⟨s1,hl⟩,s2]
 omega
def cutN (c:UInt8):Nat→List UInt8→List ByteArray
 | 0,l=>[⟨l.toArray⟩]
 | n+1,l=>match cutB c l with
  | none=>[⟨l.toArray⟩]
  | some (p,q)=>⟨p.toArray⟩::cutN c n q
theorem index_no (c:UInt8):∀l:List UInt8,c∉l→Go.Lib.indexByte l c = -1
 | [],_=>rfl
 | b::l,h=>by
  have hb:¬b=c:=fun e=>h (by simp[e])
  unfold Go.Lib.indexByte
  rw[if_neg (by simpa using hb),index_no c l (fun hm=>h (by simp[hm]))]
  simp
theorem index_pre (c:UInt8) (q:List UInt8):∀p:List UInt8,c∉p→Go.Lib.indexByte (p++c::q) c=(p.length:Int)
 | [],_=>by
  unfold Go.Lib.indexByte
  simp
 | b::p,h=>by
  have hb:¬b=c:=fun e=>h (by simp[e])
  rw[List.cons_append]
  unfold Go.Lib.indexByte
  rw[if_neg (by simpa using hb),index_pre c q p (fun hm=>h (by simp[hm]))]
  have:((p.length:Int) == -1)=false:=by
   simp<;>omega
  rw[this]
  simp
theorem cutB_pre (c:UInt8) (q:List UInt8):∀p:List UInt8,c∉p→cutB c (p++c::q)=some (p,q):=by
 intro p hp
 cases hc:cutB c (p++c::q) with
 | none=>exact absurd (by simp) (cutB_none hc)
 | some x =>
  obtain⟨p2,q2⟩:=x
  obtain⟨e,hp2⟩:=cF_ hc
  have h1:=index_pre c q p hp
  rw[e,index_pre c q2 p2 hp2] at h1
  have hl:p2.length=p.length:=by omega
  obtain⟨rfl,e2⟩:=List.append_inj e hl.symm
  rw[(List.cons.inj e2).2]
theorem cutN_sizes (c:UInt8):∀(n:Nat) (l:List UInt8),∀x∈cutN c n l,x.size≤l.length
 | 0,l,x,h=>by
  obtain rfl:x=⟨l.toArray⟩:=by simpa[cutN] using h
  rw[aN_,bc_]
  exact Nat.le_refl _
 | n+1,l,x,h=>by
  unfold cutN at h
  split at h
  ·obtain rfl:x=⟨l.toArray⟩:=by simpa using h
   rw[aN_,bc_]
   exact Nat.le_refl _
  ·rename_i p q hc
   obtain⟨e,_⟩:=cF_ hc
   have hl:l.length=p.length+(q.length+1):=by rw[e];simp
   rcases List.mem_cons.1 h with rfl|h
   ·rw[aN_,bc_];omega
   ·have:=cutN_sizes c n q x h
    omega
theorem cutN_split (c:UInt8):∀(n:Nat) (l:List UInt8),Go.Lib.countByte l c≤n→cutN c n l=splitC c [] l
 | 0,l,h=>by
  obtain⟨h1,_⟩:=index_none l c (by omega)
  rw[cM_ c l [] h1]
  simp[cutN]
 | n+1,l,h=>by
  unfold cutN
  cases hc:cutB c l with
  | none =>
   rw[cM_ c l [] (cutB_none hc)]
   simp
  | some x =>
   obtain⟨p,q⟩:=x
   obtain⟨e,hp⟩:=cF_ hc
   have hcnt:Go.Lib.countByte q c≤n:=by
    rw[e] at h
    simp only[Go.Lib.countByte,List.count_append,List.count_cons_self] at h ⊢
    omega
   simp only
   rw[cutN_split c n q hcnt,e,ca_ c q p [] hp]
   simp
theorem genSplitN_loop (c:UInt8) (n:Nat) (hn:n≤1048576):∀(m:Nat) (s:ByteArray) (A B:List ByteArray),s.size≤1048576→A.length+m=n→A.length+B.length=n+1 →
  Ev (fun k=>aD_.l0 k s (⟨#[c]⟩:ByteArray) 0 (n:Int) (A++B) (A.length:Int)) (A++cutN c m (bts s)):=by
 have fin:∀(s:ByteArray) (A B:List ByteArray),A.length+1≤n+1→A.length+B.length=n+1→((A++B).set ((A.length:Int)).toNat s).take (((A.length:Int)+1)).toNat=A++[s]:=by
  intro s A B h1 h2
  obtain⟨b,B',rfl⟩:∃b B',B=b::B':=by
   cases B with
   | nil=>simp at h2;omega
   | cons b B'=>exact⟨b,B',rfl⟩
  rw[set_mid]
  have:(((A.length:Int)+1)).toNat=(A++[s]).length:=by simp<;>omega
  rw[this,List.take_left']
  rfl
 intro m
 induction m with
 | zero =>
  intro s A B hs hA hB
  apply Ev.succ
  simp only[aD_.l0]
  have hl:(A++B).length=n+1:=by simp;omega
  refine Ev.neg (by omega) (Ev.pos (by omega) (Ev.pos (by rw[hl];omega) ?_))
  rw[w64 (i:=(A.length:Int)+1) (by omega) (by omega)]
  refine Ev.pos (by omega) (Ev.pos (by rw[hl];omega) (Ev.const ?_))
  rw[fin s A B (by omega) hB]
  simp[cutN,mk_bts]
 | succ m ih =>
  intro s A B hs hA hB
  have hz:=aN_ s
  have hl:(A++B).length=n+1:=by simp;omega
  have hix:bS_.f s (⟨#[c]⟩:ByteArray)=some (Go.Lib.indexByte (bts s) c):=by
   unfold bS_.f
   rw[if_pos (by rfl)]
   rfl
  apply Ev.succ
  simp only[aD_.l0]
  unfold cutN
  cases hc:cutB c (bts s) with
  | none =>
   refine Ev.pos (by omega) (Ev.cbind (-1) (by rw[hix,index_no c _ (cutB_none hc)]) (Ev.pos (by omega) (Ev.pos (by omega) (Ev.pos (by rw[hl];omega) ?_))))
   rw[w64 (i:=(A.length:Int)+1) (by omega) (by omega)]
   refine Ev.pos (by omega) (Ev.pos (by rw[hl];omega) (Ev.const ?_))
   rw[fin s A B (by omega) hB]
   simp[mk_bts]
  | some x =>
   obtain⟨pre,post⟩:=x
   obtain⟨e,hp⟩:=cF_ hc
   have hlen:(bts s).length=pre.length+(post.length+1):=by rw[e];simp
   refine Ev.pos (by omega) (Ev.cbind (pre.length:Int) (by rw[hix,e,index_pre c post pre hp]) (Ev.neg (by omega) ?_))
   have hsz1:((⟨#[c]⟩:ByteArray).size:Int)=1:=rfl
   rw[hsz1,Int.add_zero,w64 (i:=(pre.length:Int)) (by omega) (by omega),w64 (i:=(pre.length:Int)+1) (by omega) (by omega),w64 (i:=(A.length:Int)+1) (by omega) (by omega)]
   refine Ev.pos (by omega) (Ev.pos (by omega) (Ev.pos (by omega) (Ev.pos (by rw[hl];omega) (Ev.pos (by omega) (Ev.pos (by omega) ?_)))))
   obtain⟨b,B',rfl⟩:∃b B',B=b::B':=by
    cases B with
    | nil=>simp at hB;omega
    | cons b B'=>exact⟨b,B',rfl⟩
   rw[set_mid]
   have hx1:s.extract 0 ((pre.length:Int)).toNat=⟨pre.toArray⟩:=by
    rw[bV_]
    congr 2
    rw[e]
    simp
   have hx2:s.extract (((pre.length:Int)+1)).toNat s.size=⟨post.toArray⟩:=by
    rw[bV_]
    congr 2
    have e':bts s=(pre++[c])++post:=by simpa using e
    have h1:(((pre.length:Int)+1)).toNat=(pre++[c]).length:=by simp<;>omega
    rw[e',h1,List.drop_left,List.take_of_length_le]
    simp at hlen ⊢
    omega
   rw[hx1,hx2]
   have hb1:bts (⟨post.toArray⟩:ByteArray)=post:=bc_ post
   have hb2:(⟨post.toArray⟩:ByteArray).size=post.length:=by rw[aN_,hb1]
   have:=ih ⟨post.toArray⟩ (A++[⟨pre.toArray⟩]) B' (by omega) (by simp;omega) (by simp at hB ⊢;omega)
   have hcast:(((A++[(⟨pre.toArray⟩:ByteArray)]).length:Nat):Int)=(A.length:Int)+1:=by simp
   rw[hcast] at this
   refine Ev.eq_ this ?_
   rw[hb1]
   simp
theorem genSplit_j0 (c:UInt8) (s:ByteArray) (hs:s.size≤1048576) (m:Nat) (hm:m≤1048576):Ev (fun k=>aD_.j0 k s (⟨#[c]⟩:ByteArray) 0 ((m:Int)+1)) (cutN c (min m s.size) (bts s)):=by
 have hz:=aN_ s
 apply Ev.succ
 simp only[aD_.j0]
 rw[w64 (i:=(s.size:Int)+1) (by omega) (by omega)]
 have hmn:mn ((m:Int)+1) ((s.size:Int)+1)=((min m s.size+1:Nat):Int):=by
  unfold mn
  split<;>omega
 rw[hmn]
 rw[w64 (i:=((min m s.size+1:Nat):Int) - 1) (by omega) (by omega)]
 refine Ev.pos (by omega) (Ev.pos (by omega) ?_)
 have h1:(((min m s.size+1:Nat):Int) - 1)=((min m s.size:Nat):Int):=by omega
 rw[h1]
 have:=genSplitN_loop c (min m s.size) (by omega) (min m s.size) s [] (List.replicate ((min m s.size+1:Nat):Int).toNat (⟨#[]⟩:ByteArray)) hs (by simp) (by simp)
 simpa using this
theorem sep_ne (c:UInt8):(⟨#[c]⟩:ByteArray).toList≠([]:List UInt8):=by
 rw[aG_]
 intro h
 have:([c]:List UInt8)=[]:=h
 cases this
theorem strSplitC_eq (c:UInt8) (s:ByteArray) (hs:s.size≤1048576):Ev (fun k=>bF_.f k s (⟨#[c]⟩:ByteArray)) (splitC c [] (bts s)):=by
 unfold bF_.f aD_.f
 have hz:=aN_ s
 have hcl:=count_le (bts s) c
 refine Ev.bind' _ (Ev.neg (by omega) (Ev.neg (sep_ne c) (Ev.pos (by omega) (Ev.cbind (Go.Lib.countByte (bts s) c:Int) (by unfold cx_.f;rw[if_pos (by rfl)];rfl) ?_)))) (Ev.const rfl)
 rw[w64 (i:=((Go.Lib.countByte (bts s) c:Nat):Int)+1) (by omega) (by omega)]
 refine Ev.eq_ (genSplit_j0 c s hs (Go.Lib.countByte (bts s) c) (by omega)) ?_
 exact cutN_split c _ _ (by omega)
structure Cmp {α:Type} (c:α→α→Int):Prop where
 anti:∀a b,c b a = - c a b
 trans:∀a b d,c a b≤0→c b d≤0→c a d≤0
theorem Cmp.self {α:Type} {c:α→α→Int} (h:Cmp c) (a:α):c a a=0:=by
 have:=h.anti a a
 omega
theorem Cmp.lt_le {α:Type} {c:α→α→Int} (h:Cmp c) {a b d:α} (h1:c a b<0) (h2:c b d≤0):c a d<0:=by
 have h3:=h.trans a b d (by omega) h2
 by_cases h4:c a d=0
 ·have h5:=h.anti a d
  have h6:=h.trans b d a h2 (by omega)
  have h7:=h.anti a b
  omega
 ·omega
theorem Cmp.le_lt {α:Type} {c:α→α→Int} (h:Cmp c) {a b d:α} (h1:c a b≤0) (h2:c b d<0):c a d<0:=by
 have h3:=h.trans a b d h1 (by omega)
 by_cases h4:c a d=0
 ·have h5:=h.anti a d
  have h6:=h.trans d a b (by omega) h1
  have h7:=h.anti b d
  omega
 ·omega
theorem Cmp.lt_trans {α:Type} {c:α→α→Int} (h:Cmp c) {a b d:α} (h1:c a b<0) (h2:c b d<0):c a d<0:=h.lt_le h1 (by omega)
theorem Cmp.eq_trans {α:Type} {c:α→α→Int} (h:Cmp c) {a b d:α} (h1:c a b=0) (h2:c b d=0):c a d=0:=by
 have h3:=h.trans a b d (by omega) (by omega)
 have h4:=h.anti a b
 have h5:=h.anti b d
 have h6:=h.trans d b a (by omega) (by omega)
 have h7:=h.anti a d
 omega
theorem Cmp.pull {α β:Type} {c:α→α→Int} (h:Cmp c) (f:β→α):Cmp (fun a b=>c (f a) (f b)):=⟨fun a b=>h.anti _ _,fun a b d=>h.trans _ _ _⟩
theorem Cmp.lex {α:Type} {c c2:α→α→Int} (h:Cmp c) (h2:Cmp c2):Cmp (fun a b=>if c a b=0 then c2 a b else c a b):=by
 refine⟨fun a b=>?_,fun a b d=>?_⟩
 ·have h3:=h.anti a b
  have h4:=h2.anti a b
  show(if c b a=0 then c2 b a else c b a) = - (if c a b=0 then c2 a b else c a b)
  by_cases e:c a b=0
  ·rw[if_pos e,if_pos (by omega)];omega
  ·rw[if_neg e,if_neg (by omega)];omega
 ·show(if c a b=0 then c2 a b else c a b)≤0→(if c b d=0 then c2 b d else c b d)≤0→(if c a d=0 then c2 a d else c a d)≤0
  intro x y
  by_cases e1:c a b=0
  ·rw[if_pos e1] at x
   by_cases e2:c b d=0
   ·rw[if_pos e2] at y
    rw[if_pos (h.eq_trans e1 e2)]
    exact h2.trans a b d x y
   ·rw[if_neg e2] at y
    have:=h.le_lt (a:=a) (b:=b) (d:=d) (by omega) (by omega)
    rw[if_neg (by omega)]
    omega
  ·rw[if_neg e1] at x
   have hle:c b d≤0:=by
    by_cases e2:c b d=0
    ·omega
    ·rw[if_neg e2] at y;omega
   have:=h.lt_le (a:=a) (b:=b) (d:=d) (by omega) hle
   rw[if_neg (by omega)]
   omega
def lexL {α:Type} (c:α→α→Int):List α→List α→Int
 | [],[]=>0
 | [],_::_ => -1
 | _::_,[]=>1
 | a::s,b::t=>if c a b=0 then lexL c s t else c a b
theorem Cmp.lexL {α:Type} {c:α→α→Int} (h:Cmp c):Cmp (PL.lexL c):=by
 refine⟨?_,?_⟩
 ·intro a
  induction a with
  | nil=>intro b;cases b<;>simp[PL.lexL]
  | cons x s ih =>
   intro b
   cases b with
   | nil=>simp[PL.lexL]
   | cons y t =>
    have h3:=h.anti x y
    have h4:=ih t
    simp only[PL.lexL]
    by_cases e:c x y=0
    ·rw[if_pos e,if_pos (by omega)];omega
    ·rw[if_neg e,if_neg (by omega)];omega
 ·intro a
  induction a with
  | nil=>intro b d _ _;cases d<;>simp[PL.lexL]
  | cons x s ih =>
   intro b d
   cases b with
   | nil=>intro h1;simp[PL.lexL] at h1
   | cons y t =>
    cases d with
    | nil=>intro _ h2;simp[PL.lexL] at h2
    | cons z u =>
     simp only[PL.lexL]
     intro p q
     by_cases e1:c x y=0
     ·rw[if_pos e1] at p
      by_cases e2:c y z=0
      ·rw[if_pos e2] at q
       rw[if_pos (h.eq_trans e1 e2)]
       exact ih t u p q
      ·rw[if_neg e2] at q
       have:=h.le_lt (a:=x) (b:=y) (d:=z) (by omega) (by omega)
       rw[if_neg (by omega)]
       omega
     ·rw[if_neg e1] at p
      have hle:c y z≤0:=by
       by_cases e2:c y z=0
       ·omega
       ·rw[if_neg e2] at q;omega
      have:=h.lt_le (a:=x) (b:=y) (d:=z) (by omega) hle
      rw[if_neg (by omega)]
      omega
theorem lexL_zero {α:Type} {c:α→α→Int} (h:∀a b,c a b=0→a=b):∀s t:List α,lexL c s t=0→s=t
 | [],[],_=>rfl
 | [],_::_,h1=>by simp[lexL] at h1
 | _::_,[],h1=>by simp[lexL] at h1
 | a::s,b::t,h1=>by
  simp only[lexL] at h1
  by_cases e:c a b=0
  ·rw[if_pos e] at h1
   rw[h a b e,lexL_zero h s t h1]
  ·rw[if_neg e] at h1
   exact absurd h1 e
theorem cmpI_cmp:Cmp cmpI:=by
 refine⟨fun a b=>?_,fun a b d=>?_⟩
 ·unfold cmpI
  by_cases h1:a<b
  ·rw[if_neg (by omega),if_pos (by omega),if_pos h1];rfl
  ·by_cases h2:a > b
   ·rw[if_pos (by omega),if_neg h1,if_pos h2]
   ·rw[if_neg (by omega),if_neg (by omega),if_neg h1,if_neg h2];rfl
 ·unfold cmpI
  intro h1 h2
  by_cases e1:a<d
  ·rw[if_pos e1];omega
  ·rw[if_neg e1]
   by_cases e2:a > d
   ·exfalso
    by_cases f1:a<b
    ·have f2:¬b<d:=by omega
     rw[if_neg f2,if_pos (by omega)] at h2
     omega
    ·rw[if_neg f1] at h1
     by_cases f3:a > b
     ·rw[if_pos f3] at h1;omega
     ·have f2:¬b<d:=by omega
      rw[if_neg f2,if_pos (by omega)] at h2
      omega
   ·rw[if_neg e2];omega
def cmpU (a b:UInt8):Int:=cmpI (a.toNat:Int) (b.toNat:Int)
theorem cmpU_cmp:Cmp cmpU:=cmpI_cmp.pull (fun b:UInt8=>(b.toNat:Int))
theorem cmpU_zero (a b:UInt8) (h:cmpU a b=0):a=b:=by
 have:=cmpI_zero.mp h
 exact UInt8.toNat_inj.mp (by omega)
theorem cmpB_lex:∀a b:List UInt8,cmpB a b=lexL cmpU a b
 | [],[]=>by simp[cmpB,lexL,Op.bytesLess]
 | [],_::_=>by simp[cmpB,lexL,Op.bytesLess]
 | _::_,[]=>by simp[cmpB,lexL,Op.bytesLess]
 | x::s,y::t=>by
  have ih:=cmpB_lex s t
  simp only[lexL]
  rw[←ih]
  have hL:Op.bytesLess (x::s) (y::t)=(decide (x<y)||(x==y&&Op.bytesLess s t)):=rfl
  unfold cmpB
  rw[hL]
  by_cases h1:x=y
  ·subst h1
   have h0:cmpU x x=0:=cmpU_cmp.self x
   rw[if_pos h0]
   have hx:¬x<x:=UInt8.lt_irrefl x
   simp[hx]
  ·have h0:cmpU x y≠0:=fun h=>h1 (cmpU_zero x y h)
   rw[if_neg h0]
   have hb:(x==y)=false:=beq_eq_false_iff_ne.mpr h1
   have hn:x.toNat≠y.toNat:=fun h=>h1 (UInt8.toNat_inj.mp h)
   rw[hb,Bool.false_and,Bool.or_false]
   by_cases h2:x<y
   ·have h3:x.toNat<y.toNat:=UInt8.lt_iff_toNat_lt.mp h2
    unfold cmpU cmpI
    rw[if_pos (decide_eq_true h2),if_pos (by omega)]
   ·have h3:¬x.toNat<y.toNat:=fun h=>h2 (UInt8.lt_iff_toNat_lt.mpr h)
    unfold cmpU cmpI
    rw[if_neg (by simp[h2]),if_neg (by simp[h1]),if_neg (by omega),if_pos (by omega)]
theorem cmpB_cmp:Cmp cmpB:=by
 have:cmpB=lexL cmpU:=funext fun a=>funext fun b=>cmpB_lex a b
 rw[this]
 exact cmpU_cmp.lexL
theorem cmpB_zero (a b:List UInt8) (h:cmpB a b=0):a=b:=by
 rw[cmpB_lex] at h
 exact lexL_zero cmpU_zero a b h
theorem cmpR_lex:∀a b:List ByteArray,cmpR a b=lexL (fun x y=>cmpB (bts x) (bts y)) a b
 | [],[]=>rfl
 | [],_::_=>rfl
 | _::_,[]=>rfl
 | x::s,y::t=>by
  have ih:=cmpR_lex s t
  simp only[lexL,cmpR]
  rw[←ih]
  unfold ltS cmpB
  by_cases h1:Op.bytesLess (bts x) (bts y)=true
  ·rw[if_pos h1,if_pos h1,if_neg (by omega)]
  ·rw[if_neg h1,if_neg h1]
   by_cases h2:bts x=bts y
   ·rw[if_pos h2,if_pos h2,if_pos rfl]
   ·rw[if_neg h2,if_neg h2,if_neg (by omega)]
theorem cmpR_cmp:Cmp cmpR:=by
 have:cmpR=lexL (fun x y=>cmpB (bts x) (bts y)):=funext fun a=>funext fun b=>cmpR_lex a b
 rw[this]
 exact(cmpB_cmp.pull bts).lexL
theorem cmpR_zero (a b:List ByteArray) (h:cmpR a b=0):a=b:=by
 rw[cmpR_lex] at h
 exact lexL_zero (fun x y e=>ch_ (cmpB_zero _ _ e)) a b h
theorem cmpN_cmp:Cmp cmpN:=cmpR_cmp.pull (fun s:ByteArray=>(labels s).reverse)
def joinD (c:UInt8):List ByteArray→List UInt8
 | []=>[]
 | [x]=>bts x
 | x::y::t=>bts x++c::joinD c (y::t)
theorem splitC_cons (c:UInt8):∀(l cur:List UInt8),∃x t,splitC c cur l=x::t
 | [],cur=>⟨_,_,rfl⟩
 | b::l,cur=>by
  unfold splitC
  split
  ·exact⟨_,_,rfl⟩
  ·exact splitC_cons c l _
theorem joinD_split (c:UInt8):∀(l cur:List UInt8),joinD c (splitC c cur l)=cur++l
 | [],cur=>by simp[splitC,joinD,bc_]
 | b::l,cur=>by
  unfold splitC
  by_cases h:b=c
  ·rw[if_pos h]
   obtain⟨x,t,e⟩:=splitC_cons c l []
   have:=joinD_split c l []
   rw[e] at this ⊢
   simp only[joinD,bc_]
   rw[this,h]
   simp
  ·rw[if_neg h,joinD_split c l (cur++[b])]
   simp
theorem labels_join (s:ByteArray):joinD 46 (labels s)=bts s:=by
 unfold labels
 split
 ·rename_i h;rw[h];rfl
 ·rw[joinD_split];rfl
theorem labels_inj {a b:ByteArray} (h:labels a=labels b):a=b:=by
 apply ch_
 rw[←labels_join a,←labels_join b,h]
theorem cmpN_zero {a b:ByteArray}:cmpN a b=0↔a=b:=by
 constructor
 ·intro h
  have:=cmpR_zero _ _ h
  exact labels_inj (List.reverse_inj.mp this)
 ·intro h
  rw[h]
  exact cmpN_cmp.self b
theorem cmpN_bts {a b:ByteArray}:cmpN a b=0↔bts a=bts b:=cmpN_zero.trans ⟨fun h=>by rw[h],ch_⟩
def cmpK (a b:aa_):Int:=if cmpN a.f0 b.f0=0 then cmpI a.f1 b.f1 else cmpN a.f0 b.f0
theorem cmpK_cmp:Cmp cmpK:=(cmpN_cmp.pull (fun r:aa_=>r.f0)).lex (cmpI_cmp.pull (fun r:aa_=>r.f1))
theorem cmpK_zero {a b:aa_}:cmpK a b=0↔bts a.f0=bts b.f0∧a.f1=b.f1:=by
 unfold cmpK
 by_cases h:cmpN a.f0 b.f0=0
 ·rw[if_pos h,cmpI_zero]
  exact⟨fun h2=>⟨cmpN_bts.mp h,h2⟩,fun h2=>h2.2⟩
 ·rw[if_neg h]
  exact⟨fun h2=>absurd h2 h,fun h2=>absurd (cmpN_bts.mpr h2.1) h⟩
theorem cmpRec_lex (a b:aa_):cmpRec a b=if cmpK a b=0 then(if cmpB (bts (dataB a.f1 a.f3)) (bts (dataB b.f1 b.f3))=0 then cmpI a.f2 b.f2 else cmpB (bts (dataB a.f1 a.f3)) (bts (dataB b.f1 b.f3))) else cmpK a b:=by
 unfold cmpRec cmpK
 by_cases hn:cmpN a.f0 b.f0=0
 ·rw[if_pos hn,if_pos hn]
  by_cases ht:a.f1=b.f1
  ·rw[if_pos ht,if_pos (cmpI_zero.mpr ht)]
   unfold cmpB
   by_cases hd:bts (dataB a.f1 a.f3)=bts (dataB b.f1 b.f3)
   ·rw[if_pos hd,hd,bytesLess_irr]
    simp
   ·rw[if_neg hd]
    by_cases hl:Op.bytesLess (bts (dataB a.f1 a.f3)) (bts (dataB b.f1 b.f3))=true
    ·simp[hl,hd]
    ·simp[hl,hd]
  ·rw[if_neg ht,if_neg (fun h=>ht (cmpI_zero.mp h))]
   unfold cmpI
   by_cases hl:a.f1<b.f1
   ·simp[hl]
   ·have:a.f1 > b.f1:=by omega
    simp[hl,this]
 ·rw[if_neg hn,if_neg hn,if_neg hn]
theorem cmpRec_cmp:Cmp cmpRec:=by
 have:cmpRec=fun a b=>if cmpK a b=0 then(if cmpB (bts (dataB a.f1 a.f3)) (bts (dataB b.f1 b.f3))=0 then cmpI a.f2 b.f2 else cmpB (bts (dataB a.f1 a.f3)) (bts (dataB b.f1 b.f3))) else cmpK a b:=funext fun a=>funext fun b=>cmpRec_lex a b
 rw[this]
 exact cmpK_cmp.lex ((cmpB_cmp.pull (fun r:aa_=>bts (dataB r.f1 r.f3))).lex (cmpI_cmp.pull (fun r:aa_=>r.f2)))
theorem cmpRec_key {a b:aa_} (h:cmpRec a b≤0):cmpK a b≤0:=by
 rw[cmpRec_lex] at h
 by_cases e:cmpK a b=0
 ·omega
 ·rw[if_neg e] at h;exact h
theorem riseFrom_all:∀(l:List aa_) (a:aa_),riseFrom a l=true→(∀x∈l,cmpRec a x<0)∧l.Pairwise (fun x y=>cmpRec x y<0)∧∀x∈l,okR x=true
 | [],a,_=>by simp
 | b::t,a,h=>by
  simp only[riseFrom,Bool.and_eq_true,decide_eq_true_eq] at h
  obtain⟨⟨h1,h2⟩,h3⟩:=h
  obtain⟨i1,i2,i3⟩:=riseFrom_all t b h3
  refine⟨?_,List.pairwise_cons.mpr ⟨i1,i2⟩,?_⟩
  ·intro x hx
   rcases List.mem_cons.mp hx with rfl|hx
   ·exact h2
   ·exact cmpRec_cmp.lt_trans h2 (i1 x hx)
  ·intro x hx
   rcases List.mem_cons.mp hx with rfl|hx
   ·exact h1
   ·exact i3 x hx
theorem rises_all {l:List aa_} (h:rises l=true):l.Pairwise (fun x y=>cmpRec x y<0)∧∀x∈l,okR x=true:=by
 cases l with
 | nil=>simp
 | cons a t =>
  simp only[rises,Bool.and_eq_true] at h
  obtain⟨i1,i2,i3⟩:=riseFrom_all t a h.2
  refine⟨List.pairwise_cons.mpr ⟨i1,i2⟩,?_⟩
  intro x hx
  rcases List.mem_cons.mp hx with rfl|hx
  ·exact h.1
  ·exact i3 x hx
def atR (l:List aa_) (name:ByteArray) (kind:Int):List aa_:=l.filter (fun r=>decide (bts r.f0=bts name)&&(decide (kind=0)||decide (r.f1=kind)))
def hasT (l:List aa_) (name:ByteArray) (kind:Int):Bool:=l.any (fun r=>decide (bts r.f0=bts name)&&decide (r.f1=kind))
theorem at_eq (l:List aa_) (name:ByteArray) (kind:Int) (hl:l.length≤1048576):Ev (fun k=>bI_.f k l name kind) (atR l name kind):=by
 unfold bI_.f atR
 refine Ev.eq_ (bo_ l (fun k (acc:List aa_) i=>bI_.l0 k name kind acc l (l.length:Int) i) (fun acc t=>acc++t.filter (fun r=>decide (bts r.f0=bts name)&&(decide (kind=0)||decide (r.f1=kind)))) (fun p acc=>acc.length≤p.length) ?_ ?_ [] (Nat.le_refl _)) (by simp)
 ·intro acc _
  apply Ev.succ
  simp only[bI_.l0]
  exact Ev.neg (by omega) (Ev.const (by simp))
 ·intro p x t acc e ha ih
  have hm:=br_ e
  apply Ev.succ
  simp only[bI_.l0,a_,b1_ e,aG_]
  rw[w64 (i:=(p.length:Int)+1) (by omega) (by omega)]
  refine Ev.pos hm.1 (Ev.pos (by omega) (Ev.pos hm.1 ?_))
  by_cases h1:bts x.f0=bts name
  ·refine Ev.pos h1 ?_
   by_cases h2:kind=0
   ·refine Ev.pos h2 (Ev.pos (by omega) (Ev.eq_ (ih (acc++[x]) (by simp;omega)) ?_))
    rw[List.filter_cons_of_pos (by simp[h1,h2])]
    simp
   ·refine Ev.neg h2 ?_
    by_cases h3:x.f1=kind
    ·refine Ev.pos h3 (Ev.pos (by omega) (Ev.eq_ (ih (acc++[x]) (by simp;omega)) ?_))
     rw[List.filter_cons_of_pos (by simp[h1,h3])]
     simp
    ·refine Ev.neg h3 (Ev.eq_ (ih acc (by simp;omega)) ?_)
     rw[List.filter_cons_of_neg (by simp[h2,h3])]
  ·refine Ev.neg h1 (Ev.eq_ (ih acc (by simp;omega)) ?_)
   rw[List.filter_cons_of_neg (by simp[h1])]
theorem hasT_eq (l:List aa_) (name:ByteArray) (kind:Int) (hl:l.length≤1048576):Ev (fun k=>bs_.f k l name kind) (hasT l name kind):=by
 unfold bs_.f hasT
 refine bo_ l (fun k (_:Unit) i=>bs_.l0 k name kind l (l.length:Int) i) (fun _ t=>t.any (fun r=>decide (bts r.f0=bts name)&&decide (r.f1=kind))) (fun _ _=>True) ?_ ?_ () trivial
 ·intro _ _
  apply Ev.succ
  simp only[bs_.l0]
  exact Ev.neg (by omega) (Ev.const (by simp))
 ·intro p x t _ e _ ih
  have hm:=br_ e
  apply Ev.succ
  simp only[bs_.l0,a_,b1_ e,aG_]
  rw[w64 (i:=(p.length:Int)+1) (by omega) (by omega)]
  refine Ev.pos hm.1 (Ev.pos (by omega) (Ev.pos hm.1 ?_))
  by_cases h1:bts x.f0=bts name
  ·refine Ev.pos h1 ?_
   by_cases h3:x.f1=kind
   ·exact Ev.pos h3 (Ev.const (by simp[h1,h3]))
   ·exact Ev.neg h3 (Ev.eq_ (ih () trivial) (by simp[h3]))
  ·exact Ev.neg h1 (Ev.eq_ (ih () trivial) (by simp[h1]))
theorem atR_len (l:List aa_) (name:ByteArray) (kind:Int):(atR l name kind).length≤l.length:=List.length_filter_le _ _
def belowN (a b:ByteArray):Bool:=decide (bts b=[])||decide (bts a=bts b)||(46::bts b).isSuffixOf (bts a)
theorem suffix_drop {α:Type} [BEq α] [LawfulBEq α] (l m:List α):m.isSuffixOf l=(decide (m.length≤l.length)&&(l.drop (l.length - m.length)==m)):=by
 rw[Bool.eq_iff_iff,List.isSuffixOf_iff_suffix]
 simp only[Bool.and_eq_true,decide_eq_true_eq,beq_iff_eq]
 constructor
 ·rintro⟨p,rfl⟩
  refine⟨by simp,?_⟩
  simp
 ·rintro⟨h1,h2⟩
  exact⟨l.take (l.length - m.length),by rw[←h2,List.length_drop];have:l.length - (l.length - (l.length - m.length))=l.length - m.length:=(by omega);rw[this];exact List.take_append_drop _ _⟩
theorem specBelow_eq (a b:ByteArray) (ha:a.size≤1048576) (hb:b.size≤1048576):bE_.f a b=some (belowN a b):=by
 have za:=aN_ a
 have zb:=aN_ b
 unfold bE_.f belowN
 simp only[aG_]
 by_cases h1:bts b=[]
 ·rw[if_pos h1];simp[h1]
 ·rw[if_neg h1]
  by_cases h2:bts a=bts b
  ·rw[if_pos h2];simp[h2]
  ·rw[if_neg h2]
   have hn:(decide (bts b=[])||decide (bts a=bts b))=false:=by simp[h1,h2]
   rw[hn,Bool.false_or,suffix_drop]
   rw[w64 (i:=(a.size:Int) - (b.size:Int)) (by omega) (by omega)]
   by_cases h3:(a.size:Int) - (b.size:Int) > 0
   ·rw[if_pos h3,if_pos (by omega),if_pos (by omega),w64 (i:=(a.size:Int) - (b.size:Int) - 1) (by omega) (by omega)]
    obtain⟨c,hc⟩:∃c:Nat,a.size=b.size+(c+1):=⟨a.size - b.size - 1,by omega⟩
    have e1:((a.size:Int) - (b.size:Int)).toNat=c+1:=by omega
    have e2:(a.size:Int) - (b.size:Int) - 1=(c:Int):=by omega
    have hl:(bts a).length=(bts b).length+(c+1):=by omega
    obtain⟨p,x,t,e,hp⟩:∃p x t,bts a=p++x::t∧p.length=c:=by
     refine⟨(bts a).take c,(bts a)[c]'(by omega),(bts a).drop (c+1),?_,by simp;omega⟩
     rw[List.getElem_cons_drop]
     exact(List.take_append_drop _ _).symm
    have hx:bt a (c:Int)=(x.toNat:Int):=by rw[←hp];exact bt_mid e
    have ht:bts (a.extract (c+1) a.size)=t:=by
     rw[bV_,bc_,e,←hp]
     have:p++x::t=(p++[x])++t:=by simp
     rw[this,show p.length+1=(p++[x]).length from by simp,List.drop_left,List.take_of_length_le]
     have hz:(bts a).length=p.length+(t.length+1):=by rw[e];simp
     have hlp:(p++[x]).length=p.length+1:=by simp
     omega
    have htl:t.length=(bts b).length:=by
     have hz:(bts a).length=p.length+(t.length+1):=by rw[e];simp
     omega
    rw[e1,ht,e2,hx]
    have hd:(bts a).drop ((bts a).length - (46::bts b).length)=x::t:=by
     have:(bts a).length - (46::bts b).length=p.length:=by simp;omega
     rw[this,e,List.drop_left]
    rw[hd]
    have hle:decide ((46::bts b).length≤(bts a).length)=true:=decide_eq_true (by simp;omega)
    rw[hle,Bool.true_and]
    by_cases h4:t=bts b
    ·rw[if_pos h4,if_pos (by omega),if_pos (by omega)]
     congr 1
     rw[h4]
     by_cases h5:x=46
     ·subst h5
      simp
     ·have:¬((x.toNat:Int)=46):=by
       intro h
       apply h5
       apply UInt8.toNat_inj.mp
       have h46:(46:UInt8).toNat=46:=rfl
       omega
      have a1:(((x.toNat:Int))==46)=false:=beq_eq_false_iff_ne.mpr this
      have a2:(x==46)=false:=beq_eq_false_iff_ne.mpr h5
      simp[a1,a2]
    ·rw[if_neg h4]
     simp[h4]
   ·rw[if_neg h3]
    have hle:decide ((46::bts b).length≤(bts a).length)=false:=decide_eq_false (by simp;omega)
    rw[hle,Bool.false_and]
theorem implBelow_eq (a b:ByteArray) (ha:a.size≤1048576) (hb:b.size≤1048576):bZ_.f a b=some (belowN a b):=by
 have za:=aN_ a
 have zb:=aN_ b
 unfold bZ_.f belowN
 simp only[aG_]
 by_cases h2:bts a=bts b
 ·rw[if_pos h2];simp[h2]
 ·rw[if_neg h2]
  by_cases h1:bts b=[]
  ·rw[if_pos h1];simp[h1]
  ·rw[if_neg h1,if_pos (by omega)]
   have hn:(decide (bts b=[])||decide (bts a=bts b))=false:=by simp[h1,h2]
   rw[hn,Bool.false_or,suffix_drop]
   have hs:bts ((⟨#[46]⟩:ByteArray)++b)=46::bts b:=by
    unfold bts
    rw[ByteArray.data_append]
    simp
   have hz:((⟨#[46]⟩:ByteArray)++b).size=b.size+1:=by rw[aN_,hs];simp;omega
   unfold cv_.f b7_.f
   by_cases h3:(a.size:Int)≥(((⟨#[46]⟩:ByteArray)++b).size:Int)
   ·rw[if_pos h3]
    rw[hz] at h3
    rw[hz,w64 (i:=(a.size:Int) - ((b.size+1:Nat):Int)) (by omega) (by omega),if_pos (by omega),if_pos (by omega)]
    simp only[Option.bind_some]
    congr 1
    have e1:((a.size:Int) - ((b.size+1:Nat):Int)).toNat=(bts a).length - (46::bts b).length:=by simp;omega
    rw[e1,aG_,aG_,bV_,bc_,hs,List.take_of_length_le (by simp;omega)]
    have hle:decide ((46::bts b).length≤(bts a).length)=true:=decide_eq_true (by simp;omega)
    rw[hle,Bool.true_and]
   ·rw[if_neg h3]
    rw[hz] at h3
    have hle:decide ((46::bts b).length≤(bts a).length)=false:=decide_eq_false (by simp;omega)
    rw[hle,Bool.false_and]
    rfl
def after:List UInt8→List UInt8
 | []=>[]
 | b::t=>if b=46 then t else after t
def parentN (s:ByteArray):ByteArray:=⟨(after (bts s)).toArray⟩
theorem after_pre (post:List UInt8):∀pre:List UInt8,46∉pre→after (pre++46::post)=post
 | [],_=>by simp[after]
 | b::pre,h=>by
  have hb:b≠46:=fun e=>h (by simp[e])
  rw[List.cons_append,show after (b::(pre++46::post))=if b=46 then pre++46::post else after (pre++46::post) from rfl,if_neg hb]
  exact after_pre post pre (fun hm=>h (by simp[hm]))
theorem after_none:∀l:List UInt8,46∉l→after l=[]
 | [],_=>rfl
 | b::l,h=>by
  have hb:b≠46:=fun e=>h (by simp[e])
  rw[show after (b::l)=if b=46 then l else after l from rfl,if_neg hb]
  exact after_none l (fun hm=>h (by simp[hm]))
theorem after_len:∀l:List UInt8,l≠[]→(after l).length<l.length
 | [],h=>absurd rfl h
 | b::l,_=>by
  unfold after
  split
  ·simp
  ·cases l with
   | nil=>simp[after]
   | cons c l=>have:=after_len (c::l) (by simp);simp at this ⊢;omega
theorem parentN_size (s:ByteArray):(parentN s).size≤s.size:=by
 rw[aN_,aN_,parentN,bc_]
 cases h:bts s with
 | nil=>simp[after]
 | cons b l=>have:=after_len (b::l) (by simp);omega
theorem dot_split (l:List UInt8):46∉l∧Go.Lib.indexByte l 46 = -1∨∃pre post,l=pre++46::post∧46∉pre∧Go.Lib.indexByte l 46=(pre.length:Int):=by
 rcases Nat.eq_zero_or_pos (Go.Lib.countByte l 46) with h|h
 ·exact Or.inl (index_none l 46 h)
 ·obtain⟨pre,post,h1,h2,h3,_⟩:=index_some l 46 h
  exact Or.inr ⟨pre,post,h1,h2,h3⟩
theorem specParent_eq (s:ByteArray) (hs:s.size≤1048576):Ev (fun k=>bz_.f k s) (parentN s):=by
 have hz:=aN_ s
 unfold bz_.f
 refine Ev.eq_ (bo_ (bts s) (fun k (_:Unit) i=>bz_.l0 k s i) (fun _ t=>(⟨(after t).toArray⟩:ByteArray)) (fun _ _=>True) ?_ ?_ () trivial) rfl
 ·intro _ _
  apply Ev.succ
  simp only[bz_.l0]
  exact Ev.neg (by omega) (Ev.const rfl)
 ·intro p b t _ e _ ih
  have hm:=br_ e
  apply Ev.succ
  simp only[bz_.l0]
  refine Ev.pos (by omega) (Ev.pos (by omega) ?_)
  rw[bt_mid e,w64 (i:=(p.length:Int)+1) (by omega) (by omega)]
  by_cases h5:b=46
  ·subst h5
   refine Ev.pos rfl (Ev.pos (by omega) (Ev.pos (by omega) (Ev.const ?_)))
   rw[bV_]
   have h6:bts s=(p++[46])++t:=by rw[e];simp
   have h7:(p++[46]).length=p.length+1:=by simp
   have h8:((p.length:Int)+1).toNat=(p++[46]).length:=by omega
   rw[h8,h6,List.drop_left,List.take_of_length_le (by omega)]
   simp[after]
  ·have:¬((b.toNat:Int)=46):=by
    intro h
    apply h5
    apply UInt8.toNat_inj.mp
    have h46:(46:UInt8).toNat=46:=rfl
    omega
   refine Ev.neg this (Ev.eq_ (ih () trivial) ?_)
   simp[after,h5]
def ups (apex:ByteArray):Nat→ByteArray→List ByteArray
 | 0,_=>[]
 | n+1,s=>if bts s=bts apex then [] else s::ups apex n (parentN s)
def cutStep (l:List aa_) (st:ByteArray × Bool) (s:ByteArray):ByteArray × Bool:=if hasT l s 2=true then(s,true) else st
def cutSt (l:List aa_) (st:ByteArray × Bool) (c:List ByteArray):ByteArray × Bool:=c.foldl (cutStep l) st
theorem below_self (s:ByteArray):belowN s s=true:=by simp[belowN]
theorem cL_ {a b:ByteArray}:belowN a b=true↔bts b=[]∨bts a=bts b∨(46::bts b) <:+ bts a:=by
 unfold belowN
 simp only[Bool.or_eq_true,decide_eq_true_eq,List.isSuffixOf_iff_suffix,or_assoc]
theorem parent_bts (s:ByteArray):bts (parentN s)=after (bts s):=by rw[parentN,bc_]
theorem below_parent {s a:ByteArray} (h:belowN s a=true) (hne:bts s≠bts a):bts s≠[]∧belowN (parentN s) a=true:=by
 rcases cL_.mp h with h1|h1|⟨p,h1⟩
 ·refine⟨fun h2=>hne (by rw[h1,h2]),cL_.mpr (Or.inl h1)⟩
 ·exact absurd h1 hne
 ·refine⟨fun h2=>?_,?_⟩
  ·rw[h2] at h1
   have:=congrArg List.length h1
   simp at this
  ·rcases dot_split p with ⟨h2,_⟩|⟨pre,post,e,h2,_⟩
   ·refine cL_.mpr (Or.inr (Or.inl ?_))
    rw[parent_bts,←h1,after_pre _ _ h2]
   ·refine cL_.mpr (Or.inr (Or.inr ⟨post,?_⟩))
    rw[parent_bts,←h1,e]
    simp only[List.append_assoc,List.cons_append]
    rw[after_pre _ _ h2]
theorem below_up {s c:ByteArray} (h:belowN (parentN s) c=true):belowN s c=true:=by
 rcases cL_.mp h with h1|h1|⟨p,h1⟩
 ·exact cL_.mpr (Or.inl h1)
 ·rw[parent_bts] at h1
  rcases dot_split (bts s) with ⟨h2,_⟩|⟨pre,post,e,h2,_⟩
  ·rw[after_none _ h2] at h1
   exact cL_.mpr (Or.inl h1.symm)
  ·rw[e,after_pre _ _ h2] at h1
   refine cL_.mpr (Or.inr (Or.inr ⟨pre,?_⟩))
   rw[e,h1]
 ·rw[parent_bts] at h1
  rcases dot_split (bts s) with ⟨h2,_⟩|⟨pre,post,e,h2,_⟩
  ·rw[after_none _ h2] at h1
   have:=congrArg List.length h1
   simp at this
  ·rw[e,after_pre _ _ h2] at h1
   refine cL_.mpr (Or.inr (Or.inr ⟨pre++46::p,?_⟩))
   rw[e,←h1]
   simp
theorem parent_lt {s:ByteArray} (h:bts s≠[]):(parentN s).size<s.size:=by
 rw[aN_,aN_,parent_bts]
 exact after_len _ h
theorem l6Cut_loop (apex:ByteArray) (l:List aa_) (ha:apex.size≤1048576) (hl:l.length≤1048576):∀(n:Nat) (s:ByteArray) (st:ByteArray × Bool),s.size<n→s.size≤1048576→belowN s apex=true →
  Ev (fun k=>a6_.l0 k apex l s st.1 st.2) (cutSt l st (ups apex n s))
 | 0,_,_,h,_,_=>by omega
 | n+1,s,st,hn,hs,hb=>by
  apply Ev.succ
  simp only[a6_.l0,aG_]
  by_cases e:bts s=bts apex
  ·refine Ev.pos e (Ev.succ ?_)
   simp only[a6_.j1]
   exact Ev.neg (by simp) (Ev.const (by simp[ups,e,cutSt]))
  ·obtain⟨h1,h2⟩:=below_parent hb e
   have h3:=parent_lt h1
   refine Ev.neg e (Ev.cbind _ (specBelow_eq s apex hs ha) ?_)
   rw[hb]
   apply Ev.succ
   simp only[a6_.j1,aG_]
   refine Ev.pos (by first|rfl|trivial) (Ev.bind' _ (hasT_eq l s 2 hl) ?_)
   have hu:ups apex (n+1) s=s::ups apex n (parentN s):=by
    rw[show ups apex (n+1) s=if bts s=bts apex then [] else s::ups apex n (parentN s) from rfl,if_neg e]
   rw[hu]
   have hc:cutSt l st (s::ups apex n (parentN s))=cutSt l (cutStep l st s) (ups apex n (parentN s)):=rfl
   rw[hc]
   unfold cutStep
   cases hh:hasT l s 2 with
   | true =>
    refine Ev.b_ (Ev.neg h1 (Ev.bind' _ (specParent_eq s hs) ?_))
    exact l6Cut_loop apex l ha hl n (parentN s) (s,true) (by omega) (by omega) h2
   | false =>
    refine Ev.a4_ (Ev.neg h1 (Ev.bind' _ (specParent_eq s hs) ?_))
    exact l6Cut_loop apex l ha hl n (parentN s) st (by omega) (by omega) h2
def cutOf (apex:ByteArray) (l:List aa_) (s:ByteArray):ByteArray × Bool:=cutSt l ((⟨#[]⟩:ByteArray),false) (ups apex (s.size+1) s)
theorem l6Cut_eq (apex:ByteArray) (l:List aa_) (s:ByteArray) (ha:apex.size≤1048576) (hl:l.length≤1048576) (hs:s.size≤1048576) (hb:belowN s apex=true):Ev (fun k=>a6_.f k apex l s) (cutOf apex l s):=by
 unfold a6_.f
 exact l6Cut_loop apex l ha hl (s.size+1) s ((⟨#[]⟩:ByteArray),false) (by omega) hs hb
theorem below_antisymm {a b:ByteArray} (h1:belowN a b=true) (h2:belowN b a=true):bts a=bts b:=by
 have hsz:∀x y:ByteArray,belowN x y=true→bts x=bts y∨(bts y).length<(bts x).length:=by
  intro x y h
  rcases cL_.mp h with h1|h1|h1
  ·by_cases hx:bts x=[]
   ·exact Or.inl (by rw[hx,h1])
   ·refine Or.inr ?_
    rw[h1]
    simpa[List.length_pos_iff] using hx
  ·exact Or.inl h1
  ·have:=h1.length_le
   simp at this
   exact Or.inr (by omega)
 rcases hsz a b h1 with h3|h3
 ·exact h3
 ·rcases hsz b a h2 with h4|h4
  ·exact h4.symm
  ·omega
theorem ups_mem (apex:ByteArray):∀(n:Nat) (s c:ByteArray),s.size<n→belowN s apex=true→(c∈ups apex n s↔belowN s c=true∧belowN c apex=true∧bts c≠bts apex)
 | 0,_,_,h,_=>by omega
 | n+1,s,c,hn,hb=>by
  have hu:ups apex (n+1) s=if bts s=bts apex then [] else s::ups apex n (parentN s):=rfl
  rw[hu]
  by_cases e:bts s=bts apex
  ·rw[if_pos e]
   constructor
   ·intro h;cases h
   ·rintro⟨h1,h2,h3⟩
    have e2:s=apex:=ch_ e
    rw[e2] at h1
    exact absurd (below_antisymm h2 h1) h3
  ·rw[if_neg e]
   obtain⟨h1,h2⟩:=below_parent hb e
   have h3:=parent_lt h1
   have ih:=ups_mem apex n (parentN s) c (by omega) h2
   rw[List.mem_cons,ih]
   constructor
   ·rintro(rfl|⟨h4,h5,h6⟩)
    ·exact⟨below_self _,hb,e⟩
    ·exact⟨below_up h4,h5,h6⟩
   ·rintro⟨h4,h5,h6⟩
    by_cases h7:bts s=bts c
    ·exact Or.inl (ch_ h7.symm)
    ·exact Or.inr ⟨(below_parent h4 h7).2,h5,h6⟩
theorem ups_size (apex:ByteArray):∀(n:Nat) (s c:ByteArray),c∈ups apex n s→c.size≤s.size
 | 0,_,_,h=>by cases h
 | n+1,s,c,h=>by
  have hu:ups apex (n+1) s=if bts s=bts apex then [] else s::ups apex n (parentN s):=rfl
  rw[hu] at h
  split at h
  ·cases h
  ·rcases List.mem_cons.mp h with rfl|h
   ·exact Nat.le_refl _
   ·have:=ups_size apex n (parentN s) c h
    have:=parentN_size s
    omega
theorem cutSt_has (l:List aa_):∀(c:List ByteArray) (st:ByteArray × Bool),(cutSt l st c).2=(st.2||c.any (fun s=>hasT l s 2))
 | [],st=>by simp[cutSt]
 | s::c,st=>by
  have h:cutSt l st (s::c)=cutSt l (cutStep l st s) c:=rfl
  rw[h,cutSt_has l c]
  unfold cutStep
  cases hh:hasT l s 2<;>simp[hh]
theorem cutSt_mem (l:List aa_):∀(c:List ByteArray) (st:ByteArray × Bool),(cutSt l st c=st∧c.any (fun s=>hasT l s 2)=false)∨((cutSt l st c).1∈c∧hasT l (cutSt l st c).1 2=true)
 | [],st=>by simp[cutSt]
 | s::c,st=>by
  have h:cutSt l st (s::c)=cutSt l (cutStep l st s) c:=rfl
  rw[h]
  rcases cutSt_mem l c (cutStep l st s) with ⟨h1,h2⟩|⟨h1,h2⟩
  ·rw[h1]
   unfold cutStep
   cases hh:hasT l s 2 with
   | true=>exact Or.inr ⟨by simp,by simpa using hh⟩
   | false=>exact Or.inl ⟨by simp,by simp[hh];simpa using h2⟩
  ·exact Or.inr ⟨List.mem_cons_of_mem _ h1,h2⟩
section
def soa1 (apex:ByteArray) (r:aa_):Nat:=if r.f1=6 then(if bts r.f0=bts apex then 1 else 2) else 0
def soaN (apex:ByteArray):List aa_→Nat
 | []=>0
 | r::t=>soa1 apex r+soaN apex t
def bad3 (a x:aa_):Bool:=decide (bts a.f0=bts x.f0)&&decide (a.f1=x.f1)&&(!decide (a.f2=x.f2)||decide (bts a.f3=bts x.f3))
def adj3:Option aa_→List aa_→Bool
 | _,[]=>false
 | none,x::t=>adj3 (some x) t
 | some a,x::t=>bad3 a x||adj3 (some x) t
def bad4 (o x:aa_):Bool:=decide (bts o.f0=bts x.f0)&&(decide (o.f1=5)||decide (x.f1=5))
def pair4:List aa_→List aa_→Bool
 | _,[]=>false
 | p,x::t=>p.any (fun o=>bad4 o x)||pair4 (p++[x]) t
def bad6 (apex:ByteArray) (l:List aa_) (r:aa_):Bool:=(cutOf apex l r.f0).2 && !decide (r.f1=1)&&(!decide (r.f1=2) || !decide (bts r.f0=bts (cutOf apex l r.f0).1))
def rule6 (apex:ByteArray) (l:List aa_):Int:=if l.any (bad6 apex l)=true then 6 else 0
def rule4 (apex:ByteArray) (l:List aa_):Int:=if pair4 [] l=true then 4 else if hasT l apex 5=true then 5 else rule6 apex l
def rule3 (apex:ByteArray) (l:List aa_):Int:=if adj3 none l=true then 3 else rule4 apex l
def ruleN (apex:ByteArray) (l:List aa_):Int:=if l.any (fun r => !belowN r.f0 apex)=true then 1 else if soaN apex l=1 then rule3 apex l else 2
section
variable (apex:ByteArray) (l:List aa_) (ha:apex.size≤1048576) (hl:l.length≤1048576) (hs:∀r∈l,szR r)
include ha hl hs
theorem specRule6 (hb:∀r∈l,belowN r.f0 apex=true):Ev (fun k=>aw_.l4 k apex l l (l.length:Int) 0) (rule6 apex l):=by
 unfold rule6
 refine Ev.eq_ (bo_ l (fun k (_:Unit) i=>aw_.l4 k apex l l (l.length:Int) i) (fun _ t=>if t.any (bad6 apex l)=true then(6:Int) else 0) (fun _ _=>True) ?_ ?_ () trivial) rfl
 ·intro _ _
  apply Ev.succ
  simp only[aw_.l4]
  exact Ev.neg (by omega) (Ev.const (by simp))
 ·intro p x t _ e _ ih
  have hm:=br_ e
  have hx:=hs x (ci_ e)
  have hc:=l6Cut_eq apex l x.f0 ha hl hx.1 (hb x (ci_ e))
  apply Ev.succ
  simp only[aw_.l4,a_,b1_ e,aG_]
  rw[w64 (i:=(p.length:Int)+1) (by omega) (by omega)]
  refine Ev.pos hm.1 (Ev.pos (by omega) (Ev.pos hm.1 (Ev.bind' _ hc ?_)))
  have hq:bad6 apex l x=((cutOf apex l x.f0).2 && !decide (x.f1=1)&&(!decide (x.f1=2) || !decide (bts x.f0=bts (cutOf apex l x.f0).1))):=rfl
  rw[List.any_cons,hq]
  cases(cutOf apex l x.f0).2 with
  | false=>exact Ev.a4_ (Ev.eq_ (ih () trivial) (by simp))
  | true =>
   refine Ev.b_ ?_
   by_cases h1:x.f1=1
   ·exact Ev.pos h1 (Ev.eq_ (ih () trivial) (by simp[h1]))
   ·refine Ev.neg h1 ?_
    by_cases h2:x.f1=2
    ·refine Ev.pos h2 ?_
     by_cases h3:bts x.f0=bts (cutOf apex l x.f0).1
     ·exact Ev.pos h3 (Ev.eq_ (ih () trivial) (by simp[h2,h3]))
     ·exact Ev.neg h3 (Ev.const (by simp[h1,h2,h3]))
    ·exact Ev.neg h2 (Ev.const (by simp[h1,h2]))
theorem specRule4 (hb:∀r∈l,belowN r.f0 apex=true):Ev (fun k=>aw_.l2 k apex l l (l.length:Int) 0) (rule4 apex l):=by
 unfold rule4
 refine Ev.eq_ (bo_ l (fun k (_:List aa_) i=>aw_.l2 k apex l l (l.length:Int) i) (fun p t=>if pair4 p t=true then 4 else if hasT l apex 5=true then 5 else rule6 apex l) (fun p q=>q=p) ?_ ?_ [] rfl) rfl
 ·intro q hq
  apply Ev.succ
  simp only[aw_.l2]
  refine Ev.neg (by omega) (Ev.bind' _ (hasT_eq l apex 5 hl) ?_)
  have hp:pair4 q []=false:=by cases q<;>rfl
  rw[hp]
  cases hasT l apex 5 with
  | true=>exact Ev.b_ (Ev.const (by simp))
  | false=>exact Ev.a4_ (Ev.eq_ (specRule6 apex l ha hl hs hb) (by simp))
 ·intro p x t q e hq ih
  obtain rfl:=hq.symm
  have hm:=br_ e
  apply Ev.succ
  simp only[aw_.l2,a_,b1_ e]
  have ht:l.take ((p.length:Int)).toNat=p:=by rw[e,Int.toNat_natCast,List.take_left'];rfl
  rw[ht]
  refine Ev.pos hm.1 (Ev.pos (by omega) (Ev.pos hm.1 (Ev.pos (by omega) (Ev.cbind _ rfl ?_))))
  have hgo:=ih (p++[x]) rfl
  have inner:Ev (fun k=>aw_.l3 k apex l l (l.length:Int) (p.length:Int) p (p.length:Int) 0 x.f0 x.f1 x.f2 x.f3) (if p.any (fun o=>bad4 o x)=true then 4 else if pair4 (p++[x]) t=true then 4 else if hasT l apex 5=true then 5 else rule6 apex l):=by
   refine Ev.eq_ (bo_ p (fun k (_:Unit) i=>aw_.l3 k apex l l (l.length:Int) (p.length:Int) p (p.length:Int) i x.f0 x.f1 x.f2 x.f3) (fun _ u=>if u.any (fun o=>bad4 o x)=true then(4:Int) else if pair4 (p++[x]) t=true then 4 else if hasT l apex 5=true then 5 else rule6 apex l) (fun _ _=>True) ?_ ?_ () trivial) rfl
   ·intro _ _
    apply Ev.succ
    simp only[aw_.l3]
    rw[w64 (i:=(p.length:Int)+1) (by omega) (by omega)]
    exact Ev.neg (by omega) (Ev.eq_ hgo (by simp))
   ·intro p2 o u _ e2 _ ih2
    have hm2:=br_ e2
    apply Ev.succ
    simp only[aw_.l3,a_,b1_ e2,aG_]
    rw[w64 (i:=(p2.length:Int)+1) (by omega) (by omega)]
    have hq:bad4 o x=(decide (bts o.f0=bts x.f0)&&(decide (o.f1=5)||decide (x.f1=5))):=rfl
    rw[List.any_cons,hq]
    refine Ev.pos hm2.1 (Ev.pos (by omega) (Ev.pos hm2.1 ?_))
    by_cases h1:bts o.f0=bts x.f0
    ·refine Ev.pos h1 ?_
     by_cases h2:o.f1=5
     ·exact Ev.pos h2 (Ev.const (by simp[h1,h2]))
     ·refine Ev.neg h2 ?_
      by_cases h3:x.f1=5
      ·exact Ev.pos h3 (Ev.const (by simp[h1,h3]))
      ·exact Ev.neg h3 (Ev.eq_ (ih2 () trivial) (by simp[h2,h3]))
    ·exact Ev.neg h1 (Ev.eq_ (ih2 () trivial) (by simp[h1]))
  refine Ev.eq_ inner ?_
  rw[show pair4 p (x::t)=(p.any (fun o=>bad4 o x)||pair4 (p++[x]) t) from by cases p<;>rfl]
  cases p.any (fun o=>bad4 o x)<;>simp
theorem specRule3 (hb:∀r∈l,belowN r.f0 apex=true):Ev (fun k=>aw_.l1 k apex l l (l.length:Int) 0) (rule3 apex l):=by
 unfold rule3
 refine Ev.eq_ (bo_ l (fun k (_:List aa_) i=>aw_.l1 k apex l l (l.length:Int) i) (fun p t=>if adj3 p.getLast? t=true then 3 else rule4 apex l) (fun p q=>q=p) ?_ ?_ [] rfl) rfl
 ·intro q hq
  apply Ev.succ
  simp only[aw_.l1]
  have hp:adj3 q.getLast? []=false:=by cases q.getLast?<;>rfl
  rw[hp]
  exact Ev.neg (by omega) (Ev.eq_ (specRule4 apex l ha hl hs hb) (by simp))
 ·intro p x t q e hq ih
  obtain rfl:=hq.symm
  have hm:=br_ e
  have hgo:=ih (p++[x]) rfl
  have hlast:(p++[x]).getLast? = some x:=by simp
  rw[hlast] at hgo
  apply Ev.succ
  simp only[aw_.l1,a_,b1_ e,aG_]
  refine Ev.pos hm.1 (Ev.pos (by omega) (Ev.pos hm.1 ?_))
  by_cases hp0:p=[]
  ·subst hp0
   refine Ev.neg (by simp) ?_
   rw[w64 (by simp) (by simp)]
   exact Ev.eq_ hgo (by simp[adj3])
  ·have hpl:0<p.length:=List.length_pos_iff.mpr hp0
   rw[w64 (i:=(p.length:Int) - 1) (by omega) (by omega),w64 (i:=(p.length:Int)+1) (by omega) (by omega),getLast_mid e hp0,lastOpt_some hp0]
   have hq:adj3 (some (p.getLast hp0)) (x::t)=(bad3 (p.getLast hp0) x||adj3 (some x) t):=rfl
   rw[hq]
   unfold bad3
   refine Ev.pos (by omega) (Ev.pos (by omega) (Ev.pos (by omega) ?_))
   by_cases h1:bts (p.getLast hp0).f0=bts x.f0
   ·refine Ev.pos h1 ?_
    by_cases h2:(p.getLast hp0).f1=x.f1
    ·refine Ev.pos h2 ?_
     by_cases h3:(p.getLast hp0).f2=x.f2
     ·refine Ev.pos h3 ?_
      by_cases h4:bts (p.getLast hp0).f3=bts x.f3
      ·exact Ev.pos h4 (Ev.const (by simp[h1,h2,h4]))
      ·exact Ev.neg h4 (Ev.eq_ hgo (by simp[h3,h4]))
     ·exact Ev.neg h3 (Ev.const (by simp[h1,h2,h3]))
    ·exact Ev.neg h2 (Ev.eq_ hgo (by simp[h2]))
   ·exact Ev.neg h1 (Ev.eq_ hgo (by simp[h1]))
theorem specRule_eq:Ev (fun k=>aw_.f k apex l) (ruleN apex l):=by
 unfold aw_.f ruleN
 have soa_len:∀t:List aa_,soaN apex t≤2 * t.length:=by
  intro t
  induction t with
  | nil=>simp[soaN]
  | cons r t ih =>
   have:soa1 apex r≤2:=by unfold soa1;split;split<;>omega;omega
   simp only[soaN,List.length_cons]
   omega
 have main:∀(t p:List aa_) (c:Nat),l=p++t→c≤2 * p.length→(∀r∈p,belowN r.f0 apex=true)→Ev (fun k=>aw_.l0 k apex l (c:Int) l (l.length:Int) (p.length:Int)) (if t.any (fun r => !belowN r.f0 apex)=true then 1 else if c+soaN apex t=1 then rule3 apex l else 2):=by
  intro t
  induction t with
  | nil =>
   intro p c e hc hb
   have hp:p=l:=by rw[e];simp
   apply Ev.succ
   simp only[aw_.l0]
   refine Ev.neg (by rw[hp];omega) ?_
   by_cases h1:c=1
   ·subst h1
    exact Ev.pos (by simp) (Ev.eq_ (specRule3 apex l ha hl hs (hp ▸ hb)) (by simp[soaN]))
   ·exact Ev.neg (by omega) (Ev.const (by simp[soaN,h1]))
  | cons x t ih =>
   intro p c e hc hb
   have hm:=br_ e
   have hx:=hs x (ci_ e)
   apply Ev.succ
   simp only[aw_.l0,a_,b1_ e,aG_]
   rw[w64 (i:=(p.length:Int)+1) (by omega) (by omega)]
   refine Ev.pos hm.1 (Ev.pos (by omega) (Ev.pos hm.1 (Ev.cbind _ (specBelow_eq x.f0 apex hx.1 ha) ?_)))
   rw[List.any_cons]
   cases hbx:belowN x.f0 apex with
   | false=>exact Ev.a4_ (Ev.const (by simp))
   | true =>
    refine Ev.b_ ?_
    have hb2:∀r∈p++[x],belowN r.f0 apex=true:=by
     intro r hr
     rcases List.mem_append.mp hr with h|h
     ·exact hb r h
     ·simp only[List.mem_singleton] at h;rw[h];exact hbx
    have hs1:soa1 apex x≤2:=by unfold soa1;split;split<;>omega;omega
    have hgo:=ih (p++[x]) (c+soa1 apex x) (by rw[e];simp) (by simp;omega) hb2
    have hl1:(((p++[x]).length:Nat):Int)=(p.length:Int)+1:=by simp
    rw[hl1] at hgo
    have hsum:c+soa1 apex x+soaN apex t=c+soaN apex (x::t):=by simp only[soaN];omega
    rw[hsum] at hgo
    have hgo2:∀c':Int,c'=((c+soa1 apex x:Nat):Int)→Ev (fun k=>aw_.l0 k apex l c' l (l.length:Int) ((p.length:Int)+1)) (if (!true||t.any (fun r => !belowN r.f0 apex))=true then 1 else if c+soaN apex (x::t)=1 then rule3 apex l else 2):=by
     intro c' hc'
     subst hc'
     exact Ev.eq_ hgo (by simp)
    by_cases h6:x.f1=6
    ·refine Ev.pos h6 ?_
     rw[w64 (i:=(c:Int)+1) (by omega) (by omega),w64 (i:=(c:Int)+1+1) (by omega) (by omega)]
     by_cases hn:bts x.f0=bts apex
     ·exact Ev.pos hn (hgo2 _ (by unfold soa1;rw[if_pos h6,if_pos hn];omega))
     ·exact Ev.neg hn (hgo2 _ (by unfold soa1;rw[if_pos h6,if_neg hn];omega))
    ·exact Ev.neg h6 (hgo2 _ (by unfold soa1;rw[if_neg h6];omega))
 have:=main l [] 0 rfl (by simp) (by simp)
 simpa using this
end
end
def starless (s:ByteArray):Bool:=(labels s).all (fun x => !decide (bts x=[42]))
def apexOk (s:ByteArray):Bool:=nameOk s&&starless s
theorem apexOk_name {s:ByteArray} (h:apexOk s=true):nameOk s=true:=by
 unfold apexOk at h
 simp only[Bool.and_eq_true] at h
 exact h.1
theorem specApex_eq (s:ByteArray) (hs:s.size≤1048576):Ev (fun k=>bB_.f k s) (apexOk s):=by
 unfold bB_.f
 have hl:=labels_len s
 have main:∀(L:List ByteArray) (hL:L.length≤1048577) (ok:Bool),Ev (fun k=>bB_.l0 k ok L (L.length:Int) 0) (ok&&L.all (fun x => !decide (bts x=[42]))):=by
  intro L hL ok
  refine bo_ L (fun k (b:Bool) i=>bB_.l0 k b L (L.length:Int) i) (fun b t=>b&&t.all (fun x => !decide (bts x=[42]))) (fun _ _=>True) ?_ ?_ ok trivial
  ·intro b _
   apply Ev.succ
   simp only[bB_.l0]
   exact Ev.neg (by omega) (Ev.const (by simp))
  ·intro p x t b e _ ih
   have hm:=br_ e
   apply Ev.succ
   simp only[bB_.l0,cd_ e]
   rw[w64 (i:=(p.length:Int)+1) (by omega) (by omega)]
   refine Ev.pos hm.1 (Ev.pos (by omega) (Ev.pos hm.1 ?_))
   cases b with
   | true=>exact Ev.b_ (Ev.eq_ (ih _ trivial) (by rw[aG_,bne_dec];simp))
   | false=>exact Ev.a4_ (Ev.eq_ (ih _ trivial) (by simp))
 refine Ev.bind' _ (cV_ s hs) ?_
 by_cases ha:(labels s).all labelOk=true
 ·rw[if_pos ha]
  refine Ev.eq_ (main (labels s) (by omega) _) ?_
  unfold apexOk nameOk starless
  rw[ha,Bool.and_true]
 ·rw[if_neg ha]
  refine Ev.eq_ (main [] (by simp) false) ?_
  have hn:nameOk s=false:=by
   unfold nameOk
   have:(labels s).all labelOk=false:=by simpa using ha
   rw[this,Bool.and_false]
  unfold apexOk
  rw[hn]
  rfl
theorem implApex_eq (s:ByteArray) (hs:s.size≤1048576):Ev (fun k=>cC_.f k s) (apexOk s):=by
 unfold cC_.f apexOk
 refine Ev.bind' _ (implGoodName_eq s hs) ?_
 cases hn:nameOk s with
 | false=>exact Ev.a4_ (Ev.const (by simp))
 | true =>
  refine Ev.b_ (Ev.cbind _ (hasByte_eq s 42) (Ev.const ?_))
  have hst:=star_label hn
  unfold starless
  rw[Option.some.injEq,Bool.eq_iff_iff]
  simp only[Bool.true_and,Bool.not_eq_true',decide_eq_false_iff_not,List.all_eq_true,hst]
  constructor
  ·intro h2 x hx h3
   exact h2 ⟨x,hx,h3⟩
  ·rintro h2 ⟨x,hx,h3⟩
   exact h2 x hx h3
theorem al_.idx (l0:List (aa_)) (a1_0:ByteArray) (l1_1:List (aa_)) (a1_2:Int) (q:(aa_)→Bool) (hl:l0.length≤1048576) (h:∀x∈l0,Ev (fun k=>cw_.f k (x.f0) (x.f1) (x.f2) (x.f3) a1_0 l1_1 a1_2) (q x)):Ev (fun k=>al_.f k l0 a1_0 l1_1 a1_2) (idxP q l0):=by
 unfold al_.f
 refine Ev.eq_ (bo_ l0 (fun k (_:Nat) i=>al_.l0 k l0 (l0.length:Int) i a1_0 l1_1 a1_2) (fun n t=>if 0≤idxP q t then(n:Int)+idxP q t else -1) (fun p n=>n=p.length) ?_ ?_ 0 rfl) ?_
 ·intro n hn
  apply Ev.succ
  simp only[al_.l0]
  exact Ev.neg (by omega) (Ev.const (by simp[idxP]))
 ·intro p x t n e hn ih
  have hm:=br_ e
  have hx:=h x (ci_ e)
  apply Ev.succ
  simp only[al_.l0,a_,b1_ e]
  refine Ev.pos hm.1 (Ev.pos (by omega) (Ev.pos hm.1 (Ev.bind' _ hx ?_)))
  have hq:idxP q (x::t)=(if q x then 0 else if 0≤idxP q t then idxP q t+1 else -1):=rfl
  rw[hq]
  cases q x with
  | true=>exact Ev.b_ (Ev.const (by simp[hn]))
  | false =>
   refine Ev.a4_ ?_
   rw[w64 (by omega) (by omega)]
   refine Ev.eq_ (ih (n+1) (by simp[hn])) ?_
   by_cases h2:0≤idxP q t
   ·simp[h2];omega
   ·simp[h2]
 ·by_cases h2:0≤idxP q l0
  ·simp[h2]
  ·rw[if_neg h2]
   exact(idxP_neg q l0 h2).symm
theorem aC_.any (l0:List (aa_)) (a1_0:ByteArray) (l1_1:List (aa_)) (a1_2:Int) (q:(aa_)→Bool) (hl:l0.length≤1048576) (h:∀x∈l0,Ev (fun k=>cw_.f k (x.f0) (x.f1) (x.f2) (x.f3) a1_0 l1_1 a1_2) (q x)):Ev (fun k=>aC_.f k l0 a1_0 l1_1 a1_2) (l0.any q):=by
 unfold aC_.f
 refine Ev.bind' _ (al_.idx l0 a1_0 l1_1 a1_2 q hl h) (Ev.const ?_)
 rw[idxP_nonneg]
theorem aj_.idx (l0:List (aa_)) (a1_0:ByteArray) (a1_1:Int) (a1_2:Int) (a1_3:ByteArray) (q:(aa_)→Bool) (hl:l0.length≤1048576) (h:∀x∈l0,Ev (fun k=>ck_.f (x.f0) (x.f1) (x.f2) (x.f3) a1_0 a1_1 a1_2 a1_3) (q x)):Ev (fun k=>aj_.f k l0 a1_0 a1_1 a1_2 a1_3) (idxP q l0):=by
 unfold aj_.f
 refine Ev.eq_ (bo_ l0 (fun k (_:Nat) i=>aj_.l0 k l0 (l0.length:Int) i a1_0 a1_1 a1_2 a1_3) (fun n t=>if 0≤idxP q t then(n:Int)+idxP q t else -1) (fun p n=>n=p.length) ?_ ?_ 0 rfl) ?_
 ·intro n hn
  apply Ev.succ
  simp only[aj_.l0]
  exact Ev.neg (by omega) (Ev.const (by simp[idxP]))
 ·intro p x t n e hn ih
  have hm:=br_ e
  have hx:=h x (ci_ e)
  apply Ev.succ
  simp only[aj_.l0,a_,b1_ e]
  refine Ev.pos hm.1 (Ev.pos (by omega) (Ev.pos hm.1 (Ev.bind' _ hx ?_)))
  have hq:idxP q (x::t)=(if q x then 0 else if 0≤idxP q t then idxP q t+1 else -1):=rfl
  rw[hq]
  cases q x with
  | true=>exact Ev.b_ (Ev.const (by simp[hn]))
  | false =>
   refine Ev.a4_ ?_
   rw[w64 (by omega) (by omega)]
   refine Ev.eq_ (ih (n+1) (by simp[hn])) ?_
   by_cases h2:0≤idxP q t
   ·simp[h2];omega
   ·simp[h2]
 ·by_cases h2:0≤idxP q l0
  ·simp[h2]
  ·rw[if_neg h2]
   exact(idxP_neg q l0 h2).symm
theorem aO_.any (l0:List (aa_)) (a1_0:ByteArray) (a1_1:Int) (a1_2:Int) (a1_3:ByteArray) (q:(aa_)→Bool) (hl:l0.length≤1048576) (h:∀x∈l0,Ev (fun k=>ck_.f (x.f0) (x.f1) (x.f2) (x.f3) a1_0 a1_1 a1_2 a1_3) (q x)):Ev (fun k=>aO_.f k l0 a1_0 a1_1 a1_2 a1_3) (l0.any q):=by
 unfold aO_.f
 refine Ev.bind' _ (aj_.idx l0 a1_0 a1_1 a1_2 a1_3 q hl h) (Ev.const ?_)
 rw[idxP_nonneg]
theorem ak_.idx (l0:List (aa_)) (a1_0:ByteArray) (a1_1:ByteArray) (a1_2:Int) (a1_3:Int) (a1_4:ByteArray) (q:(aa_)→Bool) (hl:l0.length≤1048576) (h:∀x∈l0,Ev (fun k=>cm_.f (x.f0) (x.f1) (x.f2) (x.f3) a1_0 a1_1 a1_2 a1_3 a1_4) (q x)):Ev (fun k=>ak_.f k l0 a1_0 a1_1 a1_2 a1_3 a1_4) (idxP q l0):=by
 unfold ak_.f
 refine Ev.eq_ (bo_ l0 (fun k (_:Nat) i=>ak_.l0 k l0 (l0.length:Int) i a1_0 a1_1 a1_2 a1_3 a1_4) (fun n t=>if 0≤idxP q t then(n:Int)+idxP q t else -1) (fun p n=>n=p.length) ?_ ?_ 0 rfl) ?_
 ·intro n hn
  apply Ev.succ
  simp only[ak_.l0]
  exact Ev.neg (by omega) (Ev.const (by simp[idxP]))
 ·intro p x t n e hn ih
  have hm:=br_ e
  have hx:=h x (ci_ e)
  apply Ev.succ
  simp only[ak_.l0,a_,b1_ e]
  refine Ev.pos hm.1 (Ev.pos (by omega) (Ev.pos hm.1 (Ev.bind' _ hx ?_)))
  have hq:idxP q (x::t)=(if q x then 0 else if 0≤idxP q t then idxP q t+1 else -1):=rfl
  rw[hq]
  cases q x with
  | true=>exact Ev.b_ (Ev.const (by simp[hn]))
  | false =>
   refine Ev.a4_ ?_
   rw[w64 (by omega) (by omega)]
   refine Ev.eq_ (ih (n+1) (by simp[hn])) ?_
   by_cases h2:0≤idxP q t
   ·simp[h2];omega
   ·simp[h2]
 ·by_cases h2:0≤idxP q l0
  ·simp[h2]
  ·rw[if_neg h2]
   exact(idxP_neg q l0 h2).symm
theorem aM_.any (l0:List (aa_)) (a1_0:ByteArray) (a1_1:ByteArray) (a1_2:Int) (a1_3:Int) (a1_4:ByteArray) (q:(aa_)→Bool) (hl:l0.length≤1048576) (h:∀x∈l0,Ev (fun k=>cm_.f (x.f0) (x.f1) (x.f2) (x.f3) a1_0 a1_1 a1_2 a1_3 a1_4) (q x)):Ev (fun k=>aM_.f k l0 a1_0 a1_1 a1_2 a1_3 a1_4) (l0.any q):=by
 unfold aM_.f
 refine Ev.bind' _ (ak_.idx l0 a1_0 a1_1 a1_2 a1_3 a1_4 q hl h) (Ev.const ?_)
 rw[idxP_nonneg]
section
def eqR4 (x r:aa_):Bool:=decide (bts x.f0=bts r.f0)&&decide (x.f1=r.f1)&&decide (x.f2=r.f2)&&decide (bts x.f3=bts r.f3)
def q3 (r x:aa_):Bool := !decide (x.f2=r.f2)||(decide (bts x.f3=bts r.f3) && !eqR4 x r)
def q6 (apex:ByteArray) (r c:aa_):Bool:=decide (c.f1=2) && !decide (bts c.f0=bts apex)&&belowN r.f0 c.f0 && !decide (r.f1=1) && !(decide (r.f1=2)&&decide (bts r.f0=bts c.f0))
def brk (apex:ByteArray) (l:List aa_) (i:Int) (r:aa_):Bool :=
 if i=1 then !belowN r.f0 apex else if i=2 then decide (r.f1=6) && !decide (bts r.f0=bts apex) else if i=3 then(atR l r.f0 r.f1).any (q3 r)
 else if i=4 then decide (r.f1=5)&&decide ((atR l r.f0 0).length > 1) else if i=5 then decide (r.f1=5)&&decide (bts r.f0=bts apex) else l.any (q6 apex r)
theorem beq_dec' (a b:List UInt8):(a==b)=decide (a=b):=by
 by_cases h:a=b
 ·simp[h]
 ·rw[beq_eq_false_iff_ne.mpr h];simp[h]
theorem beqI_dec (a b:Int):(a==b)=decide (a=b):=by
 by_cases h:a=b
 ·simp[h]
 ·rw[beq_eq_false_iff_ne.mpr h];simp[h]
theorem bneB_dec (a b:List UInt8):(a != b) = !decide (a=b):=by rw[bne,beq_dec']
theorem q3_eq (r x:aa_):ck_.f x.f0 x.f1 x.f2 x.f3 r.f0 r.f1 r.f2 r.f3=some (q3 r x):=by
 unfold ck_.f q3 eqR4
 simp only[aG_,beq_dec',beqI_dec]
 by_cases h1:x.f2=r.f2
 ·rw[if_pos h1]
  by_cases h2:bts x.f3=bts r.f3
  ·rw[if_pos h2]
   congr 1
   simp only[h1,h2,decide_true,Bool.not_true,Bool.false_or,Bool.true_and,Bool.and_true,Bool.or_false,Bool.not_and]
  ·rw[if_neg h2]
   simp[h1,h2]
 ·rw[if_neg h1]
  simp[h1]
theorem q6_eq (apex:ByteArray) (r c:aa_) (hr:szR r) (hc:szR c):cm_.f c.f0 c.f1 c.f2 c.f3 apex r.f0 r.f1 r.f2 r.f3=some (q6 apex r c):=by
 unfold cm_.f q6
 rw[implBelow_eq r.f0 c.f0 hr.1 hc.1]
 simp only[aG_,beq_dec',Option.bind_some]
 by_cases h1:c.f1=2
 ·rw[if_pos h1]
  by_cases h2:bts c.f0=bts apex
  ·rw[if_pos h2];simp[h2]
  ·rw[if_neg h2]
   cases hb:belowN r.f0 c.f0 with
   | false=>simp
   | true =>
    rw[if_pos rfl]
    by_cases h3:r.f1=1
    ·rw[if_pos h3];simp[h3]
    ·rw[if_neg h3]
     by_cases h4:r.f1=2
     ·rw[if_pos h4];simp[h1,h2,h4]
     ·rw[if_neg h4];simp[h1,h2,h3,h4]
 ·rw[if_neg h1];simp[h1]
section
variable (apex:ByteArray) (l:List aa_) (ha:apex.size≤1048576) (hl:l.length≤1048576) (hs:∀r∈l,szR r)
include ha hl hs
theorem brk_eq (r:aa_) (hr:szR r) (i:Int):Ev (fun k=>cX_.f k apex l r.f0 r.f1 r.f2 r.f3 i) (brk apex l i r):=by
 unfold cX_.f brk
 by_cases h1:i=1
 ·rw[if_pos h1]
  exact Ev.pos h1 (Ev.cbind _ (implBelow_eq r.f0 apex hr.1 ha) (Ev.const rfl))
 ·rw[if_neg h1]
  refine Ev.neg h1 ?_
  by_cases h2:i=2
  ·rw[if_pos h2]
   refine Ev.pos h2 ?_
   by_cases h6:r.f1=6
   ·exact Ev.pos h6 (Ev.const (by simp only[aG_,bneB_dec,h6,decide_true,Bool.true_and]))
   ·exact Ev.neg h6 (Ev.const (by simp[h6]))
  ·rw[if_neg h2]
   refine Ev.neg h2 ?_
   by_cases h3:i=3
   ·rw[if_pos h3]
    have hlen:=atR_len l r.f0 r.f1
    exact Ev.pos h3 (Ev.bind' _ (at_eq l r.f0 r.f1 hl) (Ev.bind' _ (aO_.any (atR l r.f0 r.f1) r.f0 r.f1 r.f2 r.f3 (q3 r) (by omega) (fun x _=>Ev.const (q3_eq r x))) (Ev.const rfl)))
   ·rw[if_neg h3]
    refine Ev.neg h3 ?_
    by_cases h4:i=4
    ·rw[if_pos h4]
     refine Ev.pos h4 ?_
     by_cases h5:r.f1=5
     ·refine Ev.pos h5 (Ev.bind' _ (at_eq l r.f0 0 hl) (Ev.const ?_))
      rw[show decide (((atR l r.f0 0).length:Int) > 1)=decide ((atR l r.f0 0).length > 1) from decide_eq_decide.mpr (by omega)]
      simp[h5]
     ·exact Ev.neg h5 (Ev.const (by simp[h5]))
    ·rw[if_neg h4]
     refine Ev.neg h4 ?_
     by_cases h5:i=5
     ·rw[if_pos h5]
      refine Ev.pos h5 ?_
      by_cases h6:r.f1=5
      ·exact Ev.pos h6 (Ev.const (by simp only[aG_,beq_dec',h6,decide_true,Bool.true_and]))
      ·exact Ev.neg h6 (Ev.const (by simp[h6]))
     ·rw[if_neg h5]
      exact Ev.neg h5 (Ev.bind' _ (aM_.any l apex r.f0 r.f1 r.f2 r.f3 (q6 apex r) hl (fun c hc=>Ev.const (q6_eq apex r c hr (hs c hc)))) (Ev.const rfl))
theorem brkAny_eq (i:Int):Ev (fun k=>aC_.f k l apex l i) (l.any (brk apex l i)):=by
 refine aC_.any l apex l i (brk apex l i) hl (fun x hx=>?_)
 unfold cw_.f
 exact Ev.bind' _ (brk_eq apex l ha hl hs x (hs x hx) i) (Ev.const rfl)
def ruleI (apex:ByteArray) (l:List aa_):Int :=
 if l.any (brk apex l 1)=true then 1 else if l.any (brk apex l 2)=true then 2 else if (atR l apex 6).length≠1 then 2 else if l.any (brk apex l 3)=true then 3
 else if l.any (brk apex l 4)=true then 4 else if l.any (brk apex l 5)=true then 5 else if l.any (brk apex l 6)=true then 6 else 0
theorem implRule_loop:Ev (fun k=>bl_.l0 k apex l 1) (ruleI apex l):=by
 have step:∀(i:Int) (q:Int),1≤i→i≤6→i≠2→(l.any (brk apex l i)=false→Ev (fun k=>bl_.l0 k apex l (i+1)) q)→Ev (fun k=>bl_.l0 k apex l i) (if l.any (brk apex l i)=true then i else q):=by
  intro i q h1 h2 h3 h
  apply Ev.succ
  simp only[bl_.l0]
  rw[w64 (i:=i+1) (by omega) (by omega)]
  refine Ev.pos h2 (Ev.bind' _ (brkAny_eq apex l ha hl hs i) ?_)
  cases hb:l.any (brk apex l i) with
  | true=>exact Ev.b_ (Ev.const rfl)
  | false=>exact Ev.a4_ (Ev.neg h3 (Ev.eq_ (h hb) (by simp)))
 have last:Ev (fun k=>bl_.l0 k apex l 7) 0:=by
  apply Ev.succ
  simp only[bl_.l0]
  exact Ev.neg (by omega) (Ev.const rfl)
 have step2:∀(q:Int),Ev (fun k=>bl_.l0 k apex l 3) q→Ev (fun k=>bl_.l0 k apex l 2) (if l.any (brk apex l 2)=true then 2 else if (atR l apex 6).length≠1 then 2 else q):=by
  intro q h
  have hw:wrap64 ((2:Int)+1)=3:=by rw[w64 (by omega) (by omega)];rfl
  apply Ev.succ
  simp only[bl_.l0,hw]
  refine Ev.pos (by omega) (Ev.bind' _ (brkAny_eq apex l ha hl hs 2) ?_)
  cases hb:l.any (brk apex l 2) with
  | true=>exact Ev.b_ (Ev.const rfl)
  | false =>
   refine Ev.a4_ (Ev.pos (by first|rfl|trivial) (Ev.bind' _ (at_eq l apex 6 hl) ?_))
   by_cases h6:(atR l apex 6).length=1
   ·refine Ev.pos (by omega) (Ev.eq_ h ?_)
    simp[h6]
   ·refine Ev.neg (by omega) (Ev.const ?_)
    simp[h6]
 unfold ruleI
 exact step 1 _ (by omega) (by omega) (by omega) (fun _=>step2 _ (step 3 _ (by omega) (by omega) (by omega) (fun _=>step 4 _ (by omega) (by omega) (by omega) (fun _=>step 5 _ (by omega) (by omega) (by omega) (fun _=>step 6 _ (by omega) (by omega) (by omega) (fun _=>last))))))
theorem implRuleOf_eq:Ev (fun k=>bl_.f k apex l) (if (apexOk apex&&decide (l.length≤40)&&rises l)=true then ruleI apex l else 9):=by
 unfold bl_.f
 have hw:Ev (fun k=>cD_.f k apex l) (apexOk apex&&decide (l.length≤40)&&rises l):=by
  unfold cD_.f
  refine Ev.bind' _ (implApex_eq apex ha) ?_
  cases apexOk apex with
  | false=>exact Ev.a4_ (Ev.const (by simp))
  | true =>
   refine Ev.b_ ?_
   by_cases h40:(l.length:Int)≤40
   ·have h40':l.length≤40:=by omega
    exact Ev.pos h40 (Ev.bind' _ (areRising_eq l hl hs) (Ev.const (by simp[h40'])))
   ·have h40':¬l.length≤40:=by omega
    exact Ev.neg h40 (Ev.const (by simp[h40']))
 refine Ev.bind' _ hw ?_
 cases(apexOk apex&&decide (l.length≤40)&&rises l) with
 | true=>exact Ev.b_ (Ev.eq_ (implRule_loop apex l ha hl hs) (by simp))
 | false=>exact Ev.a4_ (Ev.const (by simp))
end
end
theorem pw_all {α:Type} {R:α→α→Prop} (hsym:∀a b,R a b→R b a) (hrf:∀a,R a a):∀(l:List α),l.Pairwise R→∀x∈l,∀y∈l,R x y
 | [],_,x,hx,_,_=>by cases hx
 | a::t,h,x,hx,y,hy=>by
  obtain⟨h1,h2⟩:=List.pairwise_cons.mp h
  rcases List.mem_cons.mp hx with e1|hx1
  ·rcases List.mem_cons.mp hy with e2|hy1
   ·rw[e1,e2];exact hrf _
   ·rw[e1];exact h1 y hy1
  ·rcases List.mem_cons.mp hy with e2|hy1
   ·rw[e2];exact hsym _ _ (h1 x hx1)
   ·exact pw_all hsym hrf t h2 x hx1 y hy1
theorem soa_split (apex:ByteArray) (l:List aa_):soaN apex l=(atR l apex 6).length+2 * (l.filter (brk apex l 2)).length:=by
 have hq:(brk apex l 2)=fun r=>decide (r.f1=6) && !decide (bts r.f0=bts apex):=by
  funext r
  unfold brk
  rw[if_neg (by omega),if_pos rfl]
 rw[hq]
 clear hq
 induction l with
 | nil=>simp[soaN,atR]
 | cons r t ih =>
  simp only[soaN,ih]
  unfold atR soa1
  by_cases h1:r.f1=6
  ·by_cases h2:bts r.f0=bts apex
   ·rw[List.filter_cons_of_pos (by simp[h1,h2]),List.filter_cons_of_neg (by simp[h1,h2]),if_pos h1,if_pos h2]
    simp only[List.length_cons]
    omega
   ·rw[List.filter_cons_of_neg (by simp[h1,h2]),List.filter_cons_of_pos (by simp[h1,h2]),if_pos h1,if_neg h2]
    simp only[List.length_cons]
    omega
  ·rw[List.filter_cons_of_neg (by simp[h1]),List.filter_cons_of_neg (by simp[h1]),if_neg h1]
   omega
theorem any_filter {α:Type} (q:α→Bool) (l:List α):l.any q=false↔(l.filter q).length=0:=by
 rw[List.length_eq_zero_iff,List.filter_eq_nil_iff,List.any_eq_false]
theorem adj3_false:∀(t:List aa_) (a:aa_),adj3 (some a) t=false→(a::t).Pairwise (fun x y=>cmpRec x y<0)→(∀x∈t,cmpK a x=0→a.f2=x.f2)∧t.Pairwise (fun x y=>cmpK x y=0→x.f2=y.f2)
 | [],a,_,_=>by simp
 | b::u,a,h,hp=>by
  obtain⟨p1,p2⟩:=List.pairwise_cons.mp hp
  obtain⟨p3,p4⟩:=List.pairwise_cons.mp p2
  have hq:adj3 (some a) (b::u)=(bad3 a b||adj3 (some b) u):=rfl
  rw[hq,Bool.or_eq_false_iff] at h
  obtain⟨h1,h2⟩:=h
  obtain⟨i1,i2⟩:=adj3_false u b h2 p2
  have hab:cmpK a b=0→a.f2=b.f2:=by
   intro hk
   obtain⟨k1,k2⟩:=cmpK_zero.mp hk
   unfold bad3 at h1
   by_cases h3:a.f2=b.f2
   ·exact h3
   ·simp[k1,k2,h3] at h1
  refine⟨?_,List.pairwise_cons.mpr ⟨i1,i2⟩⟩
  intro x hx hk
  rcases List.mem_cons.mp hx with rfl|hx
  ·exact hab hk
  ·have k1:=cmpRec_key (Int.le_of_lt (p1 b (by simp)))
   have k2:=cmpRec_key (Int.le_of_lt (p3 x hx))
   have k3:cmpK a b=0:=by
    by_cases h5:cmpK a b=0
    ·exact h5
    ·have:=cmpK_cmp.lt_le (a:=a) (b:=b) (d:=x) (by omega) k2
     omega
   have k4:cmpK b x=0:=by
    by_cases h5:cmpK b x=0
    ·exact h5
    ·have:=cmpK_cmp.le_lt (a:=a) (b:=b) (d:=x) (by omega) (by omega)
     omega
   rw[hab k3,i1 x hx k4]
theorem adj3_true:∀(t:List aa_) (a:aa_),adj3 (some a) t=true→(a::t).Pairwise (fun x y=>cmpRec x y<0)→∃u v,u∈a::t∧v∈a::t∧bad3 u v=true∧cmpRec u v<0
 | [],a,h,_=>by cases h
 | b::u,a,h,hp=>by
  obtain⟨p1,p2⟩:=List.pairwise_cons.mp hp
  have hq:adj3 (some a) (b::u)=(bad3 a b||adj3 (some b) u):=rfl
  rw[hq,Bool.or_eq_true] at h
  rcases h with h|h
  ·exact⟨a,b,by simp,by simp,h,p1 b (by simp)⟩
  ·obtain⟨x,y,hx,hy,h1,h2⟩:=adj3_true u b h p2
   exact⟨x,y,List.mem_cons_of_mem _ hx,List.mem_cons_of_mem _ hy,h1,h2⟩
theorem brk3_at (apex:ByteArray) (l:List aa_) (r:aa_):brk apex l 3 r=(atR l r.f0 r.f1).any (q3 r):=by
 unfold brk
 rw[if_neg (by omega),if_neg (by omega),if_pos rfl]
theorem brk4_at (apex:ByteArray) (l:List aa_) (r:aa_):brk apex l 4 r=(decide (r.f1=5)&&decide ((atR l r.f0 0).length > 1)):=by
 unfold brk
 rw[if_neg (by omega),if_neg (by omega),if_neg (by omega),if_pos rfl]
theorem brk6_at (apex:ByteArray) (l:List aa_) (r:aa_):brk apex l 6 r=l.any (q6 apex r):=by
 unfold brk
 rw[if_neg (by omega),if_neg (by omega),if_neg (by omega),if_neg (by omega),if_neg (by omega)]
theorem mem_atR {l:List aa_} {s:ByteArray} {k:Int} {x:aa_}:x∈atR l s k↔x∈l∧bts x.f0=bts s∧(k=0∨x.f1=k):=by
 unfold atR
 rw[List.mem_filter]
 simp only[Bool.and_eq_true,decide_eq_true_eq,Bool.or_eq_true]
theorem okR_type {r:aa_} (h:okR r=true):r.f1=1∨r.f1=2∨r.f1=5∨r.f1=6∨r.f1=15∨r.f1=16:=by
 have h1:=okR_data h
 unfold dataOk at h1
 by_cases e1:r.f1=1
 ·exact Or.inl e1
 ·rw[if_neg e1] at h1
  by_cases e2:r.f1=2∨r.f1=5
  ·omega
  ·rw[if_neg e2] at h1
   by_cases e3:r.f1=6
   ·omega
   ·rw[if_neg e3] at h1
    by_cases e4:r.f1=15
    ·omega
    ·rw[if_neg e4] at h1
     by_cases e5:r.f1=16
     ·omega
     ·rw[if_neg e5] at h1
      cases h1
theorem rule3_same (apex:ByteArray) (l:List aa_) (hp:l.Pairwise (fun x y=>cmpRec x y<0)) (hok:∀r∈l,okR r=true):l.any (brk apex l 3)=adj3 none l:=by
 have two:adj3 none l=false→∀x∈l,∀y∈l,cmpK x y=0→x.f2=y.f2:=by
  intro h
  refine pw_all (R:=fun x y=>cmpK x y=0→x.f2=y.f2) (fun a b h1 h2=>(h1 (by have:=cmpK_cmp.anti a b;omega)).symm) (fun _ _=>rfl) l ?_
  cases l with
  | nil=>exact List.Pairwise.nil
  | cons a t =>
   obtain⟨i1,i2⟩:=adj3_false t a h hp
   exact List.pairwise_cons.mpr ⟨i1,i2⟩
 cases hA:adj3 none l with
 | false =>
  rw[List.any_eq_false]
  intro r hr hb
  rw[brk3_at,List.any_eq_true] at hb
  obtain⟨x,hx,hq⟩:=hb
  obtain⟨m1,m2,m3⟩:=mem_atR.mp hx
  have h1:x.f1=r.f1:=by
   have:=okR_type (hok r hr)
   rcases m3 with h0|h1
   ·omega
   ·exact h1
  have h2:=two hA r hr x m1 (cmpK_zero.mpr ⟨m2.symm,h1.symm⟩)
  unfold q3 eqR4 at hq
  simp[h1,h2,m2] at hq
 | true =>
  rw[List.any_eq_true]
  cases l with
  | nil=>cases hA
  | cons a t =>
   obtain⟨u,v,hu,hv,h1,h2⟩:=adj3_true t a hA hp
   unfold bad3 at h1
   simp only[Bool.and_eq_true,decide_eq_true_eq,Bool.or_eq_true,Bool.not_eq_true',decide_eq_false_iff_not] at h1
   obtain⟨⟨h3,h4⟩,h5⟩:=h1
   have h6:u.f2≠v.f2:=by
    intro h7
    rcases h5 with h5|h5
    ·exact h5 h7
    ·have e1:=ch_ h3
     have e2:=ch_ h5
     have:u=v:=by
      cases u;cases v
      simp only at e1 e2 h4 h7
      subst e1 e2 h4 h7
      rfl
     rw[this] at h2
     have:=cmpRec_cmp.self v
     omega
   refine⟨u,hu,?_⟩
   rw[brk3_at,List.any_eq_true]
   refine⟨v,mem_atR.mpr ⟨hv,h3.symm,Or.inr h4.symm⟩,?_⟩
   unfold q3
   have:¬v.f2=u.f2:=fun h=>h6 h.symm
   simp[this]
theorem pair4_iff:∀(t p:List aa_),pair4 p t=true↔∃u x v,t=u++x::v∧(p++u).any (fun o=>bad4 o x)=true
 | [],p=>by
  have:pair4 p []=false:=by cases p<;>rfl
  rw[this]
  constructor
  ·intro h;cases h
  ·rintro⟨u,x,v,h,_⟩
   have:=congrArg List.length h
   simp at this
 | y::t,p=>by
  have hq:pair4 p (y::t)=(p.any (fun o=>bad4 o y)||pair4 (p++[y]) t):=by cases p<;>rfl
  rw[hq,Bool.or_eq_true,pair4_iff t (p++[y])]
  constructor
  ·rintro(h|⟨u,x,v,h1,h2⟩)
   ·exact⟨[],y,t,rfl,by simpa using h⟩
   ·exact⟨y::u,x,v,by rw[h1];rfl,by simpa using h2⟩
  ·rintro⟨u,x,v,h1,h2⟩
   cases u with
   | nil =>
    simp only[List.nil_append,List.cons.injEq] at h1
    obtain⟨rfl,rfl⟩:=h1
    exact Or.inl (by simpa using h2)
   | cons z u =>
    simp only[List.cons_append,List.cons.injEq] at h1
    obtain⟨rfl,rfl⟩:=h1
    exact Or.inr ⟨u,x,v,rfl,by simpa using h2⟩
theorem at0_len (s:ByteArray) (p:List aa_) (r:aa_) (t:List aa_) (h:bts r.f0=bts s):(atR (p++r::t) s 0).length=(atR p s 0).length+((atR t s 0).length+1):=by
 unfold atR
 rw[List.filter_append,List.filter_cons_of_pos (by simp[h]),List.length_append,List.length_cons]
theorem rule4_same (apex:ByteArray) (l:List aa_):l.any (brk apex l 4)=pair4 [] l:=by
 rw[Bool.eq_iff_iff,List.any_eq_true,pair4_iff]
 constructor
 ·rintro⟨r,hr,hb⟩
  rw[brk4_at] at hb
  simp only[Bool.and_eq_true,decide_eq_true_eq] at hb
  obtain⟨h5,hlen⟩:=hb
  obtain⟨p,t,e⟩:=List.append_of_mem hr
  have hl:(atR l r.f0 0).length=(atR p r.f0 0).length+((atR t r.f0 0).length+1):=by rw[e];exact at0_len _ _ _ _ rfl
  by_cases hp:0<(atR p r.f0 0).length
  ·obtain⟨o,ho⟩:=List.length_pos_iff_exists_mem.mp hp
   obtain⟨m1,m2,_⟩:=mem_atR.mp ho
   refine⟨p,r,t,e,?_⟩
   rw[List.nil_append,List.any_eq_true]
   exact⟨o,m1,by unfold bad4;simp[m2,h5]⟩
  ·have ht:0<(atR t r.f0 0).length:=by omega
   obtain⟨x,hx⟩:=List.length_pos_iff_exists_mem.mp ht
   obtain⟨m1,m2,_⟩:=mem_atR.mp hx
   obtain⟨u,v,e2⟩:=List.append_of_mem m1
   refine⟨p++r::u,x,v,by rw[e,e2];simp,?_⟩
   rw[List.nil_append,List.any_eq_true]
   exact⟨r,by simp,by unfold bad4;simp[m2,h5]⟩
 ·rintro⟨u,x,v,e,h⟩
  rw[List.nil_append,List.any_eq_true] at h
  obtain⟨o,ho,hb⟩:=h
  unfold bad4 at hb
  simp only[Bool.and_eq_true,decide_eq_true_eq,Bool.or_eq_true] at hb
  obtain⟨hn,h5⟩:=hb
  obtain⟨a,b,e2⟩:=List.append_of_mem ho
  have hpx:0<(atR u x.f0 0).length:=List.length_pos_iff_exists_mem.mpr ⟨o,mem_atR.mpr ⟨ho,hn,Or.inl rfl⟩⟩
  have hlx:(atR l x.f0 0).length=(atR u x.f0 0).length+((atR v x.f0 0).length+1):=by rw[e];exact at0_len _ _ _ _ rfl
  rcases h5 with h5|h5
  ·refine⟨o,by rw[e];simp[ho],?_⟩
   rw[brk4_at]
   have hso:atR l o.f0 0=atR l x.f0 0:=by unfold atR;rw[hn]
   rw[hso]
   simp[h5]
   omega
  ·refine⟨x,by rw[e];simp,?_⟩
   rw[brk4_at]
   simp[h5]
   omega
theorem rule6_same (apex:ByteArray) (l:List aa_) (hb:∀r∈l,belowN r.f0 apex=true):l.any (brk apex l 6)=l.any (bad6 apex l):=by
 have main:∀r∈l,brk apex l 6 r=bad6 apex l r:=by
  intro r hr
  have hu:=ups_mem apex (r.f0.size+1) r.f0
  have hmem:=fun c=>hu c (by omega) (hb r hr)
  rw[brk6_at,Bool.eq_iff_iff,List.any_eq_true]
  constructor
  ·rintro⟨c,hc,hq⟩
   unfold q6 at hq
   simp only[Bool.and_eq_true,decide_eq_true_eq,Bool.not_eq_true',decide_eq_false_iff_not,Bool.and_eq_false_iff] at hq
   obtain⟨⟨⟨⟨h1,h2⟩,h3⟩,h4⟩,h5⟩:=hq
   have hin:=(hmem c.f0).mpr ⟨h3,hb c hc,h2⟩
   have hT:hasT l c.f0 2=true:=by
    unfold hasT
    rw[List.any_eq_true]
    exact⟨c,hc,by simp[h1]⟩
   have hhas:(cutOf apex l r.f0).2=true:=by
    unfold cutOf
    rw[cutSt_has,Bool.false_or,List.any_eq_true]
    exact⟨c.f0,hin,hT⟩
   unfold bad6
   rw[hhas]
   by_cases h6:r.f1=2
   ·have h7:¬bts r.f0=bts c.f0:=h5.resolve_left (fun h=>h h6)
    have hne:¬bts r.f0=bts apex:=by
     intro h8
     have e8:=ch_ h8
     rw[e8] at h3
     exact h2 (below_antisymm (hb c hc) h3)
    have hups:ups apex (r.f0.size+1) r.f0=r.f0::ups apex r.f0.size (parentN r.f0):=by
     rw[show ups apex (r.f0.size+1) r.f0=if bts r.f0=bts apex then [] else r.f0::ups apex r.f0.size (parentN r.f0) from rfl,if_neg hne]
    have hin2:c.f0∈ups apex r.f0.size (parentN r.f0):=by
     rw[hups] at hin
     rcases List.mem_cons.mp hin with h|h
     ·exact absurd (by rw[h]) h7
     ·exact h
    have hcut:¬bts r.f0=bts (cutOf apex l r.f0).1:=by
     intro h8
     unfold cutOf at h8
     rw[hups] at h8
     have hstep:cutSt l ((⟨#[]⟩:ByteArray),false) (r.f0::ups apex r.f0.size (parentN r.f0))=cutSt l (cutStep l ((⟨#[]⟩:ByteArray),false) r.f0) (ups apex r.f0.size (parentN r.f0)):=rfl
     rw[hstep] at h8
     rcases cutSt_mem l (ups apex r.f0.size (parentN r.f0)) (cutStep l ((⟨#[]⟩:ByteArray),false) r.f0) with ⟨_,h9⟩|⟨h9,_⟩
     ·rw[List.any_eq_false] at h9
      exact h9 _ hin2 hT
     ·have h10:=ups_size apex _ _ _ h9
      have h11:=parent_lt (below_parent (hb r hr) hne).1
      have h12:=ch_ h8
      rw[←h12] at h10
      omega
    simp[h4,hcut]
   ·simp[h4,h6]
  ·intro hq
   unfold bad6 at hq
   simp only[Bool.and_eq_true,decide_eq_true_eq,Bool.not_eq_true',decide_eq_false_iff_not,Bool.or_eq_true] at hq
   obtain⟨⟨h1,h2⟩,h3⟩:=hq
   unfold cutOf at h1 h3
   rcases cutSt_mem l (ups apex (r.f0.size+1) r.f0) ((⟨#[]⟩:ByteArray),false) with ⟨h4,_⟩|⟨h4,h5⟩
   ·rw[h4] at h1
    cases h1
   ·obtain⟨m1,m2,m3⟩:=(hmem _).mp h4
    unfold hasT at h5
    rw[List.any_eq_true] at h5
    obtain⟨c,hc,hq⟩:=h5
    simp only[Bool.and_eq_true,decide_eq_true_eq] at hq
    have hce:=ch_ hq.1
    refine⟨c,hc,?_⟩
    unfold q6
    rw[hce,m1]
    simp only[hq.2,decide_true,Bool.true_and,Bool.and_true,Bool.and_eq_true,Bool.not_eq_true',decide_eq_false_iff_not,Bool.and_eq_false_iff]
    exact⟨⟨m3,h2⟩,h3⟩
 rw[Bool.eq_iff_iff,List.any_eq_true,List.any_eq_true]
 constructor
 ·rintro⟨r,hr,h⟩
  exact⟨r,hr,by rw[←main r hr];exact h⟩
 ·rintro⟨r,hr,h⟩
  exact⟨r,hr,by rw[main r hr];exact h⟩
theorem rule_same (apex:ByteArray) (l:List aa_) (hr:rises l=true):ruleI apex l=ruleN apex l:=by
 obtain⟨hp,hok⟩:=rises_all hr
 have h1:brk apex l 1=fun r => !belowN r.f0 apex:=by
  funext r
  unfold brk
  rw[if_pos rfl]
 have h5:l.any (brk apex l 5)=hasT l apex 5:=by
  unfold hasT
  congr 1
  funext r
  unfold brk
  rw[if_neg (by omega),if_neg (by omega),if_neg (by omega),if_neg (by omega),if_pos rfl,Bool.and_comm]
 unfold ruleI ruleN
 rw[h1]
 by_cases hb:l.any (fun r => !belowN r.f0 apex)=true
 ·rw[if_pos hb,if_pos hb]
 ·rw[if_neg hb,if_neg hb]
  have hb':∀r∈l,belowN r.f0 apex=true:=by
   intro r hr
   cases hx:belowN r.f0 apex with
   | true=>rfl
   | false=>exact absurd (List.any_eq_true.mpr ⟨r,hr,by simp[hx]⟩) hb
  have hs:=soa_split apex l
  by_cases h2:l.any (brk apex l 2)=true
  ·rw[if_pos h2]
   have:¬(l.filter (brk apex l 2)).length=0:=fun h=>by
    rw[(any_filter _ _).mpr h] at h2
    cases h2
   rw[if_neg (show ¬soaN apex l=1 by omega)]
  ·rw[if_neg h2]
   have hz:=(any_filter (brk apex l 2) l).mp (by simpa using h2)
   by_cases h6:(atR l apex 6).length=1
   ·rw[if_neg (show ¬(atR l apex 6).length≠1 by omega),if_pos (show soaN apex l=1 by omega),rule3_same apex l hp hok,rule4_same,h5,rule6_same apex l hb']
    rfl
   ·rw[if_pos h6,if_neg (show ¬soaN apex l=1 by omega)]
section
def soaT (c:Int):List UInt8:=Go.Lib.itoa (Int.tmod c 4294967296)
theorem num_step (n:Int) (h0:0≤n) (h1:n<10):strOfNums [(wrap64 (48+n)) % 256]=⟨([UInt8.ofNat (48+n.toNat)]:List UInt8).toArray⟩:=by
 rw[w64 (by omega) (by omega)]
 apply ch_
 rw[bc_]
 show([(48+n) % 256]:List Int).map (fun n=>UInt8.ofNat n.toNat)=_
 simp only[List.map_cons,List.map_nil]
 congr 2
 omega
theorem l1Num_eq:∀(m:Nat) (n:Int),n.toNat≤m→0≤n→n≤9223372036854775807→Ev (fun k=>a7_.f k n) ⟨(Go.Lib.decDigits n.toNat).toArray⟩∧(Go.Lib.decDigits n.toNat).length≤n.toNat+1
 | 0,n,hm,h0,h1=>by
  have:n=0:=by omega
  subst this
  have hd:Go.Lib.decDigits (0:Int).toNat=[UInt8.ofNat 48]:=Go.Lib.decDigits_one (by decide)
  refine⟨Ev.succ ?_,by rw[hd];simp⟩
  simp only[a7_.f]
  refine Ev.pos (by omega) (Ev.const ?_)
  rw[num_step 0 (by omega) (by omega),hd]
  rfl
 | m+1,n,hm,h0,h1=>by
  by_cases h:n<10
  ·have hd:Go.Lib.decDigits n.toNat=[UInt8.ofNat (48+n.toNat)]:=Go.Lib.decDigits_one (by omega)
   refine⟨Ev.succ ?_,by rw[hd];simp⟩
   simp only[a7_.f]
   refine Ev.pos h (Ev.const ?_)
   rw[num_step n h0 h,hd]
  ·have hd:Go.Lib.decDigits n.toNat=Go.Lib.decDigits (n.toNat / 10)++[UInt8.ofNat (48+n.toNat % 10)]:=by
    conv=>lhs;rw[Go.Lib.decDigits]
    rw[dif_neg (by omega)]
   have e1:Int.tdiv n 10=n / 10:=Int.tdiv_eq_ediv_of_nonneg h0
   have e2:Int.tmod n 10=n % 10:=Int.tmod_eq_emod_of_nonneg h0
   have e3:(n / 10).toNat=n.toNat / 10:=by omega
   have e4:(n % 10).toNat=n.toNat % 10:=by omega
   obtain⟨i1,i2⟩:=l1Num_eq m (n / 10) (by omega) (by omega) (by omega)
   rw[e3] at i1 i2
   refine⟨Ev.succ ?_,by rw[hd];simp;omega⟩
   simp only[a7_.f]
   have hs1:strOfNums [(wrap64 (48+n % 10)) % 256]=⟨([UInt8.ofNat (48+n.toNat % 10)]:List UInt8).toArray⟩:=by
    rw[num_step (n % 10) (by omega) (by omega),e4]
   rw[e1,e2,w64 (i:=n / 10) (by omega) (by omega)]
   refine Ev.neg h (Ev.bind' _ i1 (Ev.cbind _ rfl (Ev.pos ?_ (Ev.const ?_))))
   ·rw[hs1,aN_,bc_,aN_,bc_]
    simp only[List.length_cons,List.length_nil]
    omega
   ·rw[hs1,hd,Option.some.injEq]
    apply ch_
    unfold bts
    rw[ByteArray.data_append]
    simp
theorem soa_range (c:Int) (h0:0≤c):0≤Int.tmod c 4294967296∧Int.tmod c 4294967296<4294967296:=by
 rw[Int.tmod_eq_emod_of_nonneg h0]
 omega
theorem soaT_dec (c:Int) (h0:0≤c):soaT c=Go.Lib.decDigits (Int.tmod c 4294967296).toNat:=by
 have:=soa_range c h0
 unfold soaT Go.Lib.itoa
 rw[if_neg (by omega)]
theorem l6Soa_eq (a:ByteArray) (c:Int) (l:List aa_) (h0:0≤c):Ev (fun k=>spec_l6Soa.f k a c l) ⟨(soaT c).toArray⟩:=by
 have:=soa_range c h0
 unfold spec_l6Soa.f
 rw[soaT_dec c h0]
 exact Ev.bind' _ (l1Num_eq _ _ (Nat.le_refl _) (by omega) (by omega)).1 (Ev.const rfl)
theorem serial_eq (c:Int) (h0:0≤c):cq_.f c=some ⟨(soaT c).toArray⟩:=by
 have:=soa_range c h0
 unfold cq_.f strconv_Itoa.f
 rw[if_pos (by omega)]
 rfl
def zoneOk (apex:ByteArray) (c:Int) (l:List aa_):Bool:=inR c 0 1152921504606846976&&(apexOk apex&&decide (l.length≤40)&&rises l)&&decide (ruleN apex l=0)&&l.all (fun r => !decide (r.f1=6)||decide (bts r.f3=soaT c))
theorem inR_lo {c a b:Int} (h:inR c a b=true):a≤c∧c≤b:=by
 unfold inR at h
 exact of_decide_eq_true h
section
variable (apex:ByteArray) (c:Int) (l:List aa_) (ha:apex.size≤1048576) (hl:l.length≤1048576) (hs:∀r∈l,szR r)
include ha hl hs
theorem specRuleOf_eq:Ev (fun k=>cZ_.f k apex l) (if (apexOk apex&&decide (l.length≤40)&&rises l)=true then ruleN apex l else 9):=by
 unfold cZ_.f
 refine Ev.bind' _ (specApex_eq apex ha) ?_
 cases apexOk apex with
 | false=>exact Ev.a4_ (Ev.const (by simp))
 | true =>
  refine Ev.b_ (Ev.bind' _ (specList_eq l hl hs) ?_)
  cases hr:rises l with
  | false=>exact Ev.a4_ (Ev.const (by simp))
  | true =>
   by_cases h40:l.length≤40
   ·rw[decide_eq_true h40]
    exact Ev.b_ (Ev.bind' _ (specRule_eq apex l ha hl hs) (Ev.const (by simp)))
   ·rw[decide_eq_false h40]
    exact Ev.a4_ (Ev.const (by simp))
theorem implRuleOf_same:Ev (fun k=>bl_.f k apex l) (if (apexOk apex&&decide (l.length≤40)&&rises l)=true then ruleN apex l else 9):=by
 refine Ev.eq_ (implRuleOf_eq apex l ha hl hs) ?_
 by_cases h:(apexOk apex&&decide (l.length≤40)&&rises l)=true
 ·rw[if_pos h,if_pos h]
  simp only[Bool.and_eq_true] at h
  exact rule_same apex l h.2
 ·rw[if_neg h,if_neg h]
theorem specZone_eq:Ev (fun k=>aI_.f k apex c l) (zoneOk apex c l):=by
 unfold aI_.f zoneOk
 have bad:Ev (fun k=>aI_.j0 k true apex c l) false:=by
  apply Ev.succ
  simp only[aI_.j0]
  exact Ev.pos (by first|rfl|trivial) (Ev.const rfl)
 refine Ev.cbind _ (l1In_eq _ _ _) ?_
 cases hc:inR c 0 1152921504606846976 with
 | false=>exact Ev.a4_ (Ev.eq_ bad (by simp))
 | true =>
  have hc0:=inR_lo hc
  refine Ev.b_ (Ev.bind' _ (specRuleOf_eq apex l ha hl hs) ?_)
  by_cases hw:(apexOk apex&&decide (l.length≤40)&&rises l)=true
  ·rw[if_pos hw,hw]
   by_cases h0:ruleN apex l=0
   ·rw[h0]
    apply Ev.succ
    simp only[aI_.j0]
    refine Ev.neg (by simp) ?_
    refine Ev.eq_ (bo_ l (fun k (_:Unit) i=>aI_.l0 k l (l.length:Int) i apex c l) (fun _ t=>t.all (fun r => !decide (r.f1=6)||decide (bts r.f3=soaT c))) (fun _ _=>True) ?_ ?_ () trivial) (by simp)
    ·intro _ _
     apply Ev.succ
     simp only[aI_.l0]
     exact Ev.neg (by omega) (Ev.const (by simp))
    ·intro p x t _ e _ ih
     have hm:=br_ e
     apply Ev.succ
     simp only[aI_.l0,a_,b1_ e,aG_]
     rw[w64 (i:=(p.length:Int)+1) (by omega) (by omega)]
     refine Ev.pos hm.1 (Ev.pos (by omega) (Ev.pos hm.1 ?_))
     by_cases h6:x.f1=6
     ·refine Ev.pos h6 (Ev.bind' _ (l6Soa_eq apex c l hc0.1) ?_)
      rw[bc_]
      by_cases h7:bts x.f3=soaT c
      ·exact Ev.pos h7 (Ev.eq_ (ih () trivial) (by simp[h7]))
      ·exact Ev.neg h7 (Ev.const (by simp[h6,h7]))
     ·exact Ev.neg h6 (Ev.eq_ (ih () trivial) (by simp[h6]))
   ·have hb:(ruleN apex l != 0)=true:=bne_iff_ne.mpr h0
    rw[hb]
    exact Ev.eq_ bad (by simp[h0])
  ·rw[if_neg hw]
   have hf:(apexOk apex&&decide (l.length≤40)&&rises l)=false:=by simpa using hw
   rw[hf]
   exact Ev.eq_ bad (by simp)
theorem implZone_eq:Ev (fun k=>bp_.f k apex c l) (zoneOk apex c l):=by
 unfold bp_.f zoneOk
 have hcn:cb_.f c=some (inR c 0 1152921504606846976):=by
  unfold cb_.f
  rw[within_eq]
  rfl
 refine Ev.cbind _ hcn ?_
 cases hc:inR c 0 1152921504606846976 with
 | false=>exact Ev.a4_ (Ev.const (by simp))
 | true =>
  have hc0:=inR_lo hc
  refine Ev.b_ (Ev.bind' _ (implRuleOf_same apex l ha hl hs) ?_)
  by_cases hw:(apexOk apex&&decide (l.length≤40)&&rises l)=true
  ·rw[if_pos hw,hw]
   by_cases h0:ruleN apex l=0
   ·refine Ev.pos h0 (Ev.bind' _ (at_eq l apex 6 hl) ?_)
    have hso:l.any (fun r => !belowN r.f0 apex)=false∧soaN apex l=1:=by
     unfold ruleN at h0
     by_cases h1:l.any (fun r => !belowN r.f0 apex)=true
     ·rw[if_pos h1] at h0;omega
     ·rw[if_neg h1] at h0
      by_cases h2:soaN apex l=1
      ·exact⟨by simpa using h1,h2⟩
      ·rw[if_neg h2] at h0;omega
    have hsp:=soa_split apex l
    have hat:(atR l apex 6).length=1:=by omega
    have hno:=(any_filter (brk apex l 2) l).mpr (by omega)
    obtain⟨z,hz⟩:∃z,atR l apex 6=[z]:=List.length_eq_one_iff.mp hat
    rw[hz]
    refine Ev.pos (by simp) (Ev.cbind _ (serial_eq c hc0.1) (Ev.const ?_))
    have hzm:z∈atR l apex 6:=by rw[hz];simp
    obtain⟨z1,z2,z3⟩:=mem_atR.mp hzm
    have z4:z.f1=6:=by rcases z3 with h|h;omega;exact h
    have hr0:a_ [z] 0=z:=rfl
    rw[hr0,aG_,aG_,bc_,beq_dec',decide_eq_true h0,Option.some.injEq,Bool.eq_iff_iff]
    simp only[Bool.true_and,Bool.and_true,List.all_eq_true,Bool.or_eq_true,Bool.not_eq_true',decide_eq_false_iff_not,decide_eq_true_eq]
    constructor
    ·intro h r hr
     by_cases h6:r.f1=6
     ·right
      have hra:bts r.f0=bts apex:=by
       rw[List.any_eq_false] at hno
       have:=hno r hr
       unfold brk at this
       rw[if_neg (by omega),if_pos rfl] at this
       simpa[h6] using this
      have:r∈atR l apex 6:=mem_atR.mpr ⟨hr,hra,Or.inr h6⟩
      rw[hz,List.mem_singleton] at this
      rw[this]
      exact h
     ·exact Or.inl h6
    ·intro h
     exact(h z z1).resolve_left (fun h=>h z4)
   ·exact Ev.neg h0 (Ev.const (by simp[h0]))
  ·rw[if_neg hw]
   have hf:(apexOk apex&&decide (l.length≤40)&&rises l)=false:=by simpa using hw
   rw[hf]
   exact Ev.neg (by omega) (Ev.const (by simp))
end
end
section
theorem Ev.out {α:Type} {o:Option α} {r:α} (h:Ev (fun _=>o) r):o=some r:=by
 obtain⟨a,ha⟩:=h
 exact ha a (Nat.le_refl _)
theorem sz1 (c:UInt8):(⟨#[c]⟩:ByteArray).size=1:=rfl
theorem bapp (a b:ByteArray):bts (a++b)=bts a++bts b:=by
 unfold bts
 rw[ByteArray.data_append]
 simp
theorem b1 (c:UInt8):bts (⟨#[c]⟩:ByteArray)=[c]:=rfl
theorem bM_ (l:List UInt8):(⟨l.toArray⟩:ByteArray).size=l.length:=by rw[aN_,bc_]
theorem dN_len (n:Int) (d:Nat) (hd:1≤d) (h:n.toNat<10 ^ d):(dN n).length≤d:=by
 obtain⟨s1,s2⟩:=dec_spells n.toNat
 unfold dN
 by_cases h2:2≤(Go.Lib.decDigits n.toNat).length
 ·have h3:=numeral_great _ s1 h2
  rw[s2] at h3
  rcases Nat.lt_or_ge d (Go.Lib.decDigits n.toNat).length with h4|h4
  ·have h5:10 ^ d≤10 ^ ((Go.Lib.decDigits n.toNat).length - 1):=Nat.pow_le_pow_right (by decide) (by omega)
   omega
  ·exact h4
 ·omega
theorem tB_len {a:ByteArray} (h:nameOk a=true):(tB a).length≤60:=by
 have:=(cS_ h).1
 have hz:=aN_ a
 unfold tB
 split
 ·decide
 ·omega
theorem okR_parts {r:aa_} (h:okR r=true):nameOk r.f0=true∧dataOk r.f1 r.f3=true∧(1≤r.f1∧r.f1≤16)∧(0≤r.f2∧r.f2≤100000)∧r.f3.size≤100:=by
 have h1:=okR_data h
 have h2:=okR_name h
 simp only[okR,recOk,Bool.and_eq_true] at h
 exact⟨h2,h1,kind_in h1,inR_lo h.2,data_small h1⟩
theorem okR_sz {r:aa_} (h:okR r=true):szR r:=by
 obtain⟨h1,_,_,_,h5⟩:=okR_parts h
 have:=(cS_ h1).1
 exact⟨by omega,by omega⟩
theorem rL_len {r:aa_} (h:okR r=true):6≤(rL r).length+3∧(rL r).length≤171:=by
 obtain⟨h1,h2,h3,h4,h5⟩:=okR_parts h
 have e1:=tB_len h1
 have e2:=dN_len r.f2 6 (by decide) (by omega)
 have e3:=dN_len r.f1 2 (by decide) (by omega)
 have hz:=aN_ r.f3
 unfold rL
 simp only[List.length_append,List.length_cons]
 omega
theorem told_eq (a:ByteArray):cK_.f a=some ⟨(tB a).toArray⟩:=by
 unfold cK_.f tB
 rw[aG_]
 by_cases h:bts a=[]
 ·rw[if_pos h,if_pos h]
 ·rw[if_neg h,if_neg h,mk_bts]
theorem itoa_eq (n:Int) (h0:0≤n) (h1:n≤9223372036854775807):strconv_Itoa.f n=some ⟨(dN n).toArray⟩:=by
 unfold strconv_Itoa.f
 rw[if_pos (by omega)]
 unfold Go.Lib.itoa dN
 rw[if_neg (by omega)]
theorem num_eq (n:Int) (h0:0≤n) (h1:n≤9223372036854775807):Ev (fun k=>a7_.f k n) ⟨(dN n).toArray⟩:=(l1Num_eq _ n (Nat.le_refl _) h0 h1).1
theorem recText_bts (r:aa_):((((((⟨(tB r.f0).toArray⟩:ByteArray)++(⟨#[32]⟩:ByteArray))++⟨(dN r.f2).toArray⟩)++(⟨#[32]⟩:ByteArray))++⟨(dN r.f1).toArray⟩)++(⟨#[32]⟩:ByteArray))++r.f3=⟨(rL r).toArray⟩:=by
 apply ch_
 simp only[bapp,bc_,b1,rL,List.append_assoc,List.cons_append,List.nil_append]
theorem implRecText_eq (r:aa_) (h:okR r=true):bq_.f r.f0 r.f1 r.f2 r.f3=some ⟨(rL r).toArray⟩:=by
 obtain⟨h1,h2,h3,h4,h5⟩:=okR_parts h
 have e1:=tB_len h1
 have e2:=dN_len r.f2 6 (by decide) (by omega)
 have e3:=dN_len r.f1 2 (by decide) (by omega)
 apply Ev.out
 unfold bq_.f
 refine Ev.cbind _ (told_eq _) (Ev.pos (by simp only[bM_];omega) (Ev.cbind _ (itoa_eq _ (by omega) (by omega)) (Ev.pos (by simp only[b9_,sz1,bM_,List.length_cons,List.length_nil];omega) (Ev.pos (by simp only[b9_,sz1,bM_,List.length_cons,List.length_nil];omega) (Ev.cbind _ (itoa_eq _ (by omega) (by omega)) (Ev.pos (by simp only[b9_,sz1,bM_,List.length_cons,List.length_nil];omega) (Ev.pos (by simp only[b9_,sz1,bM_,List.length_cons,List.length_nil];omega) (Ev.pos (by simp only[b9_,sz1,bM_,List.length_cons,List.length_nil];omega) (Ev.const ?_)))))))))
 rw[recText_bts]
theorem specRecText_eq (r:aa_) (h:okR r=true):Ev (fun k=>bH_.f k r.f0 r.f1 r.f2 r.f3) ⟨(rL r).toArray⟩:=by
 obtain⟨h1,h2,h3,h4,h5⟩:=okR_parts h
 have e1:=tB_len h1
 have e2:=dN_len r.f2 6 (by decide) (by omega)
 have e3:=dN_len r.f1 2 (by decide) (by omega)
 have hr:=recText_bts r
 unfold bH_.f
 rw[aG_]
 by_cases hn:bts r.f0=[]
 ·have ht:tB r.f0=[46]:=by unfold tB;rw[if_pos hn]
  rw[ht] at hr
  refine Ev.pos hn (Ev.pos (by omega) (Ev.bind' _ (num_eq _ (by omega) (by omega)) (Ev.pos (by simp only[bM_];omega) (Ev.pos (by simp only[b9_,sz1,bM_,List.length_cons,List.length_nil];omega) (Ev.bind' _ (num_eq _ (by omega) (by omega)) (Ev.pos (by simp only[b9_,sz1,bM_,List.length_cons,List.length_nil];omega) (Ev.pos (by simp only[b9_,sz1,bM_,List.length_cons,List.length_nil];omega) (Ev.pos (by simp only[b9_,sz1,bM_,List.length_cons,List.length_nil];omega) (Ev.const ?_)))))))))
  exact congrArg some hr
 ·have ht:(⟨(tB r.f0).toArray⟩:ByteArray)=r.f0:=by unfold tB;rw[if_neg hn,mk_bts]
  have hs:=(cS_ h1).1
  rw[ht] at hr
  refine Ev.neg hn (Ev.pos (by omega) (Ev.bind' _ (num_eq _ (by omega) (by omega)) (Ev.pos (by simp only[b9_,sz1,bM_,List.length_cons,List.length_nil];omega) (Ev.pos (by simp only[b9_,sz1,bM_,List.length_cons,List.length_nil];omega) (Ev.bind' _ (num_eq _ (by omega) (by omega)) (Ev.pos (by simp only[b9_,sz1,bM_,List.length_cons,List.length_nil];omega) (Ev.pos (by simp only[b9_,sz1,bM_,List.length_cons,List.length_nil];omega) (Ev.pos (by simp only[b9_,sz1,bM_,List.length_cons,List.length_nil];omega) (Ev.const ?_)))))))))
  exact congrArg some hr
def RBAD:ByteArray × Int × Int × ByteArray × Bool:=((⟨#[]⟩:ByteArray),0,0,(⟨#[]⟩:ByteArray),false)
def RP (s:ByteArray) (r:aa_):Prop:=okR r=true∧rL r=bts s
instance (s:ByteArray) (r:aa_):Decidable (RP s r):=inferInstanceAs (Decidable (okR r=true∧rL r=bts s))
def candR (s:ByteArray) (r:aa_):ByteArray × Int × Int × ByteArray × Bool:=if RP s r then(r.f0,r.f1,r.f2,r.f3,true) else RBAD
theorem specCand (s a d:ByteArray) (b c:Int) (ha:a.size≤1048576) (hd:d.size≤1048576):Ev (fun k=>aX_.j0 k s a b c d) (candR s ⟨a,b,c,d⟩):=by
 apply Ev.succ
 simp only[aX_.j0]
 refine Ev.bind' _ (specRec_eq a b c d ha hd) ?_
 unfold candR
 by_cases h:okR ⟨a,b,c,d⟩=true
 ·refine Ev.pos h (Ev.bind' _ (specRecText_eq ⟨a,b,c,d⟩ h) ?_)
  by_cases h2:rL ⟨a,b,c,d⟩=bts s
  ·refine Ev.pos (by rw[aG_,aG_,bc_,h2]) (Ev.const ?_)
   rw[if_pos ⟨h,h2⟩]
  ·refine Ev.neg (by rw[aG_,aG_,bc_];exact h2) (Ev.const ?_)
   rw[if_neg (fun h3=>h2 h3.2)]
   rfl
 ·refine Ev.neg h (Ev.const ?_)
  rw[if_neg (fun h3=>h h3.1)]
  rfl
theorem line_words {s:ByteArray} {r:aa_} (h:RP s r):bts s=tB r.f0++32::(dN r.f2++32::(dN r.f1++32::bts r.f3))∧(32:UInt8)∉tB r.f0∧(32:UInt8)∉dN r.f2∧(32:UInt8)∉dN r.f1:=by
 refine⟨h.2.symm,name_no (okR_name h.1) (by decide),dN_no _ (by decide),dN_no _ (by decide)⟩
def specR (s:ByteArray):ByteArray × Int × Int × ByteArray × Bool:=match splitC 32 [] (bts s) with
 | x0::x1::x2::_::_=>candR s ⟨unT x0,numOf (bts x2),numOf (bts x1),s.extract (x0.size+x1.size+x2.size+3) s.size⟩
 | _=>RBAD
theorem unT_size (x:ByteArray):(unT x).size≤x.size:=by
 unfold unT
 split
 ·exact Nat.zero_le _
 ·exact Nat.le_refl _
theorem ext_size (s:ByteArray) (n:Nat):(s.extract n s.size).size≤s.size:=by
 have hz:=aN_ s
 rw[bV_,bM_,List.length_take]
 omega
theorem specR_eq (s:ByteArray) (hs:s.size≤1048576):Ev (fun k=>aX_.f k s) (specR s):=by
 have hz:=aN_ s
 have hsp:=specSplitC_eq 32 s hs
 have htot:=splitC_total 32 (bts s) []
 have hsz:=ct_ 32 (bts s) []
 unfold aX_.f specR
 refine Ev.bind' _ hsp ?_
 generalize splitC 32 [] (bts s)=L at htot hsz
 match L,htot,hsz with
 | [],_,_=>exact Ev.pos (by simp) (Ev.const rfl)
 | [_],_,_=>exact Ev.pos (by simp) (Ev.const rfl)
 | [_,_],_,_=>exact Ev.pos (by simp) (Ev.const rfl)
 | [_,_,_],_,_=>exact Ev.pos (by simp) (Ev.const rfl)
 | x0::x1::x2::x3::t,htot,hsz =>
  have g0:=hsz x0 (by simp)
  have g1:=hsz x1 (by simp)
  have g2:=hsz x2 (by simp)
  simp only[List.length_nil,List.map_cons,List.sum_cons,List.length_cons] at htot g0 g1 g2
  have r0:rdOf ByteArray.empty (x0::x1::x2::x3::t) 0=x0:=rfl
  have r1:rdOf ByteArray.empty (x0::x1::x2::x3::t) 1=x1:=rfl
  have r2:rdOf ByteArray.empty (x0::x1::x2::x3::t) 2=x2:=rfl
  have hl:((x0::x1::x2::x3::t).length:Int)=(t.length:Int)+4:=by simp<;>omega
  rw[r0,r1,r2]
  show Ev _ (candR s ⟨unT x0,numOf (bts x2),numOf (bts x1),s.extract (x0.size+x1.size+x2.size+3) s.size⟩)
  generalize hR:candR s ⟨unT x0,numOf (bts x2),numOf (bts x1),s.extract (x0.size+x1.size+x2.size+3) s.size⟩=R
  have g1':=l1Int_eq x1 (by omega)
  have g2':=l1Int_eq x2 (by omega)
  refine Ev.neg (by omega) (Ev.pos (by omega) (Ev.pos (by omega) ?_))
  refine Ev.bind' _ g1' ?_
  refine Ev.pos (by omega) ?_
  refine Ev.bind' _ g2' ?_
  rw[←hR]
  have hw:wrap64 (wrap64 (wrap64 ((x0.size:Int)+(x1.size:Int))+(x2.size:Int))+3)=((x0.size+x1.size+x2.size+3:Nat):Int):=by
   rw[w64 (i:=(x0.size:Int)+(x1.size:Int)) (by omega) (by omega),w64 (i:=(x0.size:Int)+(x1.size:Int)+(x2.size:Int)) (by omega) (by omega),w64 (by omega) (by omega)]
   omega
  rw[hw,Int.toNat_natCast]
  clear hw
  refine Ev.pos (by omega) (Ev.pos (by omega) ?_)
  have hex:=ext_size s (x0.size+x1.size+x2.size+3)
  have hu:=unT_size x0
  rw[aG_]
  by_cases h:bts x0=[46]
  ·have e:unT x0=(⟨#[]⟩:ByteArray):=by unfold unT;rw[if_pos h]
   rw[e]
   exact Ev.pos h (specCand s _ _ _ _ (by decide) (by omega))
  ·have e:unT x0=x0:=by unfold unT;rw[if_neg h]
   rw[e]
   exact Ev.neg h (specCand s _ _ _ _ (by omega) (by omega))
theorem specR_yes {s:ByteArray} {r:aa_} (h:RP s r):specR s=(r.f0,r.f1,r.f2,r.f3,true):=by
 obtain⟨e,h0,h1,h2⟩:=line_words h
 obtain⟨p1,p2,p3,p4,p5⟩:=okR_parts h.1
 have hL:∃y t,splitC 32 [] (bts s)=⟨(tB r.f0).toArray⟩::⟨(dN r.f2).toArray⟩::⟨(dN r.f1).toArray⟩::y::t:=by
  rw[e,ca_ 32 _ _ [] h0,ca_ 32 _ _ [] h1,ca_ 32 _ _ [] h2]
  cases hc:splitC 32 [] (bts r.f3) with
  | nil=>exact absurd hc (splitC_ne _ _ _)
  | cons y t=>exact⟨y,t,by simp⟩
 obtain⟨y,t,hL⟩:=hL
 have hx:s.extract ((tB r.f0).length+(dN r.f2).length+(dN r.f1).length+3) s.size=r.f3:=by
  apply ch_
  rw[bV_,bc_]
  have e':bts s=(tB r.f0++32::(dN r.f2++32::(dN r.f1++[32])))++bts r.f3:=by rw[e];simp
  have hl:(tB r.f0).length+(dN r.f2).length+(dN r.f1).length+3=(tB r.f0++32::(dN r.f2++32::(dN r.f1++[32]))).length:=by simp<;>omega
  have hz:=aN_ s
  rw[e'] at hz ⊢
  rw[hl,List.drop_left,List.take_of_length_le]
  rw[hz]
  simp only[List.length_append,List.length_cons,List.length_nil]
  omega
 unfold specR
 rw[hL]
 simp only[bM_,bc_]
 rw[unT_told p1,numOf_dec _ (by omega) (by omega),numOf_dec _ (by omega) (by omega),hx]
 unfold candR
 rw[if_pos h]
theorem specR_no {s:ByteArray} (h:∀r,¬RP s r):specR s=RBAD:=by
 unfold specR
 split
 ·unfold candR
  rw[if_neg (h _)]
 ·rfl
def atoiV (s:ByteArray):Int:=match Go.Lib.atoiAll s.data.toList with
 | .ok v=>v
 | .range=>Go.Lib.atoiSat s.data.toList
 | _=>0
theorem atoi_eq (s:ByteArray) (hs:s.size≤1048576):∃o,bQ_.f s=some (atoiV s,o):=by
 unfold bQ_.f atoiV
 rw[if_pos (by omega)]
 cases Go.Lib.atoiAll s.data.toList<;>exact⟨_,rfl⟩
theorem atoiV_dec (n:Int) (h0:0≤n) (h1:n≤1152921504606846976):atoiV ⟨(dN n).toArray⟩=n:=by
 unfold atoiV
 have e:(⟨(dN n).toArray⟩:ByteArray).data.toList=dN n:=bc_ _
 rw[e,atoi_dec n h0 h1]
def implR (s:ByteArray):ByteArray × Int × Int × ByteArray × Bool:=if s.size > 300 then RBAD else match cutN 32 (min 3 s.size) (bts s) with
 | [x0,x1,x2,x3]=>candR s ⟨unT x0,atoiV x2,atoiV x1,x3⟩
 | _=>RBAD
theorem implCand (s:ByteArray) (x0 x1 x2 x3 a d:ByteArray) (h1:x1.size≤1048576) (h2:x2.size≤1048576) (ha:a.size≤1048576) (hd:d.size≤1048576):Ev (fun k=>aJ_.j1 k s [x0,x1,x2,x3] a 0 0 d) (candR s ⟨a,atoiV x2,atoiV x1,d⟩):=by
 obtain⟨o1,e1⟩:=atoi_eq x1 h1
 obtain⟨o2,e2⟩:=atoi_eq x2 h2
 apply Ev.succ
 simp only[aJ_.j1]
 have r1:rdOf ByteArray.empty [x0,x1,x2,x3] 1=x1:=rfl
 have r2:rdOf ByteArray.empty [x0,x1,x2,x3] 2=x2:=rfl
 rw[r1,r2]
 refine Ev.pos (by simp) (Ev.cbind _ e1 (Ev.pos (by simp) (Ev.cbind _ e2 (Ev.bind' _ (implRec_eq a _ _ d ha hd) ?_))))
 unfold candR
 by_cases h:okR ⟨a,atoiV x2,atoiV x1,d⟩=true
 ·refine Ev.pos h (Ev.cbind _ (implRecText_eq ⟨a,atoiV x2,atoiV x1,d⟩ h) ?_)
  by_cases h2:rL ⟨a,atoiV x2,atoiV x1,d⟩=bts s
  ·refine Ev.pos (by rw[aG_,aG_,bc_,h2]) (Ev.const ?_)
   rw[if_pos ⟨h,h2⟩]
  ·refine Ev.neg (by rw[aG_,aG_,bc_];exact h2) (Ev.const ?_)
   rw[if_neg (fun h3=>h2 h3.2)]
   rfl
 ·refine Ev.neg h (Ev.const ?_)
  rw[if_neg (fun h3=>h h3.1)]
  rfl
theorem splitN_eq (s:ByteArray) (hs:s.size≤1048576):Ev (fun k=>cz_.f k s (⟨#[32]⟩:ByteArray) 4) (cutN 32 (min 3 s.size) (bts s)):=by
 unfold cz_.f aD_.f
 refine Ev.bind' _ (Ev.neg (by omega) (Ev.neg (sep_ne 32) (Ev.neg (by omega) ?_))) (Ev.const rfl)
 exact genSplit_j0 32 s hs 3 (by omega)
theorem implR_eq (s:ByteArray) (hs:s.size≤1048576):Ev (fun k=>aJ_.f k s) (implR s):=by
 have hbad:∀L,Ev (fun k=>aJ_.j0 k s L true) RBAD:=fun L=>by
  apply Ev.succ
  simp only[aJ_.j0]
  exact Ev.pos (by first|rfl|trivial) (Ev.const rfl)
 have hz:=aN_ s
 have hsz:=cutN_sizes 32 (min 3 s.size) (bts s)
 unfold aJ_.f implR
 refine Ev.bind' _ (splitN_eq s hs) ?_
 generalize cutN 32 (min 3 s.size) (bts s)=L at hsz
 by_cases h:s.size > 300
 ·rw[if_pos h]
  exact Ev.pos (by omega) (hbad L)
 ·rw[if_neg h]
  refine Ev.neg (by omega) ?_
  match L,hsz with
  | [],_=>exact hbad _
  | [_],_=>exact hbad _
  | [_,_],_=>exact hbad _
  | [_,_,_],_=>exact hbad _
  | _::_::_::_::_::t,_ =>
   rw[show((((_::_::_::_::_::t:List ByteArray).length:Int)) != 4)=true from by simp;omega]
   exact hbad _
  | [x0,x1,x2,x3],hsz =>
   have g0:=hsz x0 (by simp)
   have g1:=hsz x1 (by simp)
   have g2:=hsz x2 (by simp)
   have g3:=hsz x3 (by simp)
   have r0:rdOf ByteArray.empty [x0,x1,x2,x3] 0=x0:=rfl
   have r3:rdOf ByteArray.empty [x0,x1,x2,x3] 3=x3:=rfl
   show Ev _ (candR s ⟨unT x0,atoiV x2,atoiV x1,x3⟩)
   rw[show((([x0,x1,x2,x3]:List ByteArray).length:Int) != 4)=false from rfl]
   apply Ev.succ
   simp only[aJ_.j0,r0,r3]
   refine Ev.neg (by simp) (Ev.pos (by simp) (Ev.pos (by simp) ?_))
   rw[aG_]
   by_cases h:bts x0=[46]
   ·have e:unT x0=(⟨#[]⟩:ByteArray):=by unfold unT;rw[if_pos h]
    rw[e]
    exact Ev.pos h (implCand s _ _ _ _ _ _ (by omega) (by omega) (by decide) (by omega))
   ·have e:unT x0=x0:=by unfold unT;rw[if_neg h]
    rw[e]
    exact Ev.neg h (implCand s _ _ _ _ _ _ (by omega) (by omega) (by omega) (by omega))
theorem implR_yes {s:ByteArray} {r:aa_} (h:RP s r):implR s=(r.f0,r.f1,r.f2,r.f3,true):=by
 obtain⟨e,h0,h1,h2⟩:=line_words h
 obtain⟨p1,p2,p3,p4,p5⟩:=okR_parts h.1
 obtain⟨l1,l2⟩:=rL_len h.1
 have hz:=aN_ s
 have hl:(bts s).length=(rL r).length:=by rw[←h.2]
 unfold implR
 rw[if_neg (by omega),show min 3 s.size=3 from by omega]
 have hL:cutN 32 3 (bts s)=[⟨(tB r.f0).toArray⟩,⟨(dN r.f2).toArray⟩,⟨(dN r.f1).toArray⟩,r.f3]:=by
  rw[e]
  simp only[cutN,cutB_pre 32 _ _ h0,cutB_pre 32 _ _ h1,cutB_pre 32 _ _ h2,mk_bts]
 rw[hL]
 simp only
 rw[unT_told p1,atoiV_dec _ (by omega) (by omega),atoiV_dec _ (by omega) (by omega)]
 unfold candR
 rw[if_pos h]
theorem implR_no {s:ByteArray} (h:∀r,¬RP s r):implR s=RBAD:=by
 unfold implR
 split
 ·rfl
 ·split
  ·unfold candR
   rw[if_neg (h _)]
  ·rfl
theorem RP_uniq {s:ByteArray} {r q:aa_} (h1:RP s r) (h2:RP s q):r=q:=by
 have h:=(specR_yes h1).symm.trans (specR_yes h2)
 simp only[Prod.mk.injEq] at h
 cases r
 cases q
 simp only at h
 obtain⟨rfl,rfl,rfl,rfl,_⟩:=h
 rfl
open Classical in
noncomputable def rdR (s:ByteArray):Option aa_:=if h:∃r,RP s r then some (Classical.choose h) else none
def outR:Option aa_→ByteArray × Int × Int × ByteArray × Bool
 | some r=>(r.f0,r.f1,r.f2,r.f3,true)
 | none=>RBAD
theorem rdR_yes {s:ByteArray} {r:aa_} (h:RP s r):rdR s=some r:=by
 have hx:∃r,RP s r:=⟨r,h⟩
 unfold rdR
 rw[dif_pos hx]
 exact congrArg some (RP_uniq (Classical.choose_spec hx) h)
theorem rdR_ok {s:ByteArray} {r:aa_} (h:rdR s=some r):RP s r:=by
 unfold rdR at h
 split at h
 ·rename_i hx
  obtain rfl:=Option.some.inj h
  exact Classical.choose_spec hx
 ·cases h
theorem rdR_no {s:ByteArray} (h:rdR s=none) (r:aa_):¬RP s r:=fun hr=>by
 rw[rdR_yes hr] at h
 cases h
theorem specRead_eq (s:ByteArray) (hs:s.size≤1048576):Ev (fun k=>aX_.f k s) (outR (rdR s)):=by
 refine Ev.eq_ (specR_eq s hs) ?_
 cases h:rdR s with
 | some r=>exact specR_yes (rdR_ok h)
 | none=>exact specR_no (rdR_no h)
theorem implRead_eq (s:ByteArray) (hs:s.size≤1048576):Ev (fun k=>aJ_.f k s) (outR (rdR s)):=by
 refine Ev.eq_ (implR_eq s hs) ?_
 cases h:rdR s with
 | some r=>exact implR_yes (rdR_ok h)
 | none=>exact implR_no (rdR_no h)
end
def ZBAD:ByteArray × Int × List aa_ × Bool:=((⟨#[]⟩:ByteArray),0,[],false)
theorem zone_parts {a:ByteArray} {c:Int} {l:List aa_} (h:zoneOk a c l=true):nameOk a=true∧(0≤c∧c≤1152921504606846976)∧l.length≤40∧∀x∈l,okR x=true:=by
 simp only[zoneOk,Bool.and_eq_true,decide_eq_true_eq] at h
 obtain⟨⟨⟨h1,⟨h2,h3⟩,h4⟩,h5⟩,h6⟩:=h
 obtain⟨r1,r2⟩:=rises_all h4
 exact⟨apexOk_name h2,inR_lo h1,h3,r2⟩
theorem hL_len {a:ByteArray} {c:Int} (h:nameOk a=true) (h0:0≤c) (h1:c≤1152921504606846976):(hL a c).length≤80:=by
 have e1:=tB_len h
 have e2:=dN_len c 19 (by decide) (by omega)
 unfold hL
 simp only[List.length_append,List.length_cons]
 omega
theorem lines_len:∀(l:List aa_),(∀x∈l,okR x=true)→(l.flatMap (fun r=>10::rL r)).length≤172 * l.length
 | [],_=>by simp
 | x::l,h=>by
  have h1:=(rL_len (h x (by simp))).2
  have h2:=lines_len l (fun y hy=>h y (by simp[hy]))
  simp only[List.flatMap_cons,List.length_append,List.length_cons]
  omega
theorem zL_len {a:ByteArray} {c:Int} {l:List aa_} (h:zoneOk a c l=true):(zL a c l).length≤6960:=by
 obtain⟨h1,h2,h3,h4⟩:=zone_parts h
 have e1:=hL_len (c:=c) h1 h2.1 h2.2
 have e2:=lines_len l h4
 unfold zL
 rw[List.length_append]
 omega
theorem told_loop (F:Nat→ByteArray→Int→Option ByteArray) (a:ByteArray) (c:Int) (l:List aa_) (hl:l.length≤1000) (hok:∀x∈l,okR x=true) (h0:(hL a c).length≤80)
  (he:∀s,Ev (fun k=>F k s (l.length:Int)) s) (hs:∀p x t s,l=p++x::t→s.size≤80+172 * p.length→Ev (fun k=>F k (s++((⟨#[10]⟩:ByteArray)++⟨(rL x).toArray⟩)) ((p.length:Int)+1)) ⟨(zL a c l).toArray⟩→Ev (fun k=>F k s (p.length:Int)) ⟨(zL a c l).toArray⟩) :
  Ev (fun k=>F k ⟨(hL a c).toArray⟩ 0) ⟨(zL a c l).toArray⟩:=by
 have main:∀(t p:List aa_) (s:ByteArray),l=p++t→bts s=hL a c++p.flatMap (fun r=>10::rL r)→Ev (fun k=>F k s (p.length:Int)) ⟨(zL a c l).toArray⟩:=by
  intro t
  induction t with
  | nil =>
   intro p s e hb
   have hp:p=l:=by rw[e,List.append_nil]
   rw[hp] at hb ⊢
   refine Ev.eq_ (he s) ?_
   apply ch_
   rw[hb,bc_]
   rfl
  | cons x t ih =>
   intro p s e hb
   have hz:=aN_ s
   have h2:=lines_len p (fun y hy=>hok y (by rw[e];simp[hy]))
   rw[hb,List.length_append] at hz
   refine hs p x t s e (by omega) ?_
   have:=ih (p++[x]) (s++((⟨#[10]⟩:ByteArray)++⟨(rL x).toArray⟩)) (by rw[e];simp) (by
    rw[bapp,bapp,hb,b1,bc_]
    simp)
   have hc:(((p++[x]).length:Nat):Int)=(p.length:Int)+1:=by simp
   rw[hc] at this
   exact this
 exact main l [] ⟨(hL a c).toArray⟩ rfl (by rw[bc_];simp)
theorem head_bts (a:ByteArray) (c:Int):((⟨(tB a).toArray⟩:ByteArray)++(⟨#[32]⟩:ByteArray))++⟨(dN c).toArray⟩=⟨(hL a c).toArray⟩:=by
 apply ch_
 simp only[bapp,bc_,b1,hL,List.append_assoc,List.cons_append,List.nil_append]
theorem head_bts' (a:ByteArray) (c:Int):(⟨(tB a).toArray⟩:ByteArray)++((⟨#[32]⟩:ByteArray)++⟨(dN c).toArray⟩)=⟨(hL a c).toArray⟩:=by
 apply ch_
 simp only[bapp,bc_,b1,hL,List.append_assoc,List.cons_append,List.nil_append]
theorem implText_eq {a:ByteArray} {c:Int} {l:List aa_} (h:zoneOk a c l=true):Ev (fun k=>bb_.f k a c l) ⟨(zL a c l).toArray⟩:=by
 obtain⟨h1,h2,h3,h4⟩:=zone_parts h
 have e1:=tB_len h1
 have e2:=dN_len c 19 (by decide) (by omega)
 unfold bb_.f
 refine Ev.cbind _ (told_eq a) (Ev.pos (by simp only[bM_];omega) (Ev.cbind _ (itoa_eq c (by omega) (by omega)) (Ev.pos (by simp only[b9_,sz1,bM_,List.length_cons,List.length_nil];omega) ?_)))
 rw[head_bts]
 refine told_loop (fun k s i=>bb_.l0 k s l (l.length:Int) i) a c l (by omega) h4 (hL_len h1 h2.1 h2.2) ?_ ?_
 ·intro s
  apply Ev.succ
  simp only[bb_.l0]
  exact Ev.neg (by omega) (Ev.const rfl)
 ·intro p x t s e hs hgo
  have hm:=br_ e
  have hx:=h4 x (ci_ e)
  have hxl:=(rL_len hx).2
  apply Ev.succ
  simp only[bb_.l0,a_,b1_ e]
  refine Ev.pos hm.1 (Ev.pos (by omega) (Ev.pos hm.1 (Ev.cbind _ (implRecText_eq x hx) (Ev.pos (by simp only[bM_];omega) (Ev.pos (by simp only[b9_,sz1,bM_,List.length_cons,List.length_nil];omega) ?_)))))
  rw[w64 (i:=(p.length:Int)+1) (by omega) (by omega)]
  exact hgo
theorem specText_eq {a:ByteArray} {c:Int} {l:List aa_} (h:zoneOk a c l=true):Ev (fun k=>bm_.f k a c l) ⟨(zL a c l).toArray⟩:=by
 obtain⟨h1,h2,h3,h4⟩:=zone_parts h
 have e1:=tB_len h1
 have e2:=dN_len c 19 (by decide) (by omega)
 have hj:Ev (fun k=>bm_.j0 k ⟨(tB a).toArray⟩ a c l) ⟨(zL a c l).toArray⟩:=by
  apply Ev.succ
  simp only[bm_.j0]
  have hcnt:Ev (fun k=>cP_.f k c) ⟨(dN c).toArray⟩:=by
   unfold cP_.f
   exact Ev.bind' _ (num_eq c (by omega) (by omega)) (Ev.const rfl)
  refine Ev.bind' _ hcnt (Ev.pos (by simp only[bM_];omega) (Ev.pos (by simp only[b9_,sz1,bM_,List.length_cons,List.length_nil];omega) ?_))
  rw[head_bts']
  refine told_loop (fun k s i=>bm_.l0 k s l (l.length:Int) i) a c l (by omega) h4 (hL_len h1 h2.1 h2.2) ?_ ?_
  ·intro s
   apply Ev.succ
   simp only[bm_.l0]
   exact Ev.neg (by omega) (Ev.const rfl)
  ·intro p x t s e hs hgo
   have hm:=br_ e
   have hx:=h4 x (ci_ e)
   have hxl:=(rL_len hx).2
   apply Ev.succ
   simp only[bm_.l0,a_,b1_ e]
   refine Ev.pos hm.1 (Ev.pos (by omega) (Ev.pos hm.1 (Ev.bind' _ (specRecText_eq x hx) (Ev.pos (by simp only[bM_];omega) (Ev.pos (by simp only[b9_,sz1,bM_,List.length_cons,List.length_nil];omega) ?_)))))
   rw[w64 (i:=(p.length:Int)+1) (by omega) (by omega)]
   exact hgo
 unfold bm_.f
 rw[aG_]
 by_cases hn:bts a=[]
 ·have ht:(⟨(tB a).toArray⟩:ByteArray)=⟨#[46]⟩:=by unfold tB;rw[if_pos hn]
  rw[ht] at hj
  exact Ev.pos hn hj
 ·have ht:(⟨(tB a).toArray⟩:ByteArray)=a:=by unfold tB;rw[if_neg hn,mk_bts]
  rw[ht] at hj
  exact Ev.neg hn hj
noncomputable def rdLs:List ByteArray→Option (List aa_)
 | []=>some []
 | x::t=>match rdR x with
  | none=>none
  | some r=>(rdLs t).map (r::·)
def finZ (s a:ByteArray) (c:Int) (l:List aa_):ByteArray × Int × List aa_ × Bool:=if zoneOk a c l=true∧zL a c l=bts s then(a,c,l,true) else ZBAD
def outZ (s a:ByteArray) (c:Int) (st:List aa_):Option (List aa_)→ByteArray × Int × List aa_ × Bool
 | none=>ZBAD
 | some l=>finZ s a c (st++l)
theorem rdLs_lines:∀(l:List aa_),(∀x∈l,okR x=true)→rdLs (l.map (fun x=>(⟨(rL x).toArray⟩:ByteArray)))=some l
 | [],_=>rfl
 | x::l,h=>by
  have hx:RP ⟨(rL x).toArray⟩ x:=⟨h x (by simp),(bc_ _).symm⟩
  rw[List.map_cons,rdLs,rdR_yes hx]
  simp only
  rw[rdLs_lines l (fun y hy=>h y (by simp[hy]))]
  rfl
theorem read_loop (s a:ByteArray) (c:Int) (Y:List ByteArray) (F:Nat→List aa_→Int→Option (ByteArray × Int × List aa_ × Bool)) (hY:Y.length≤1048576) (hYs:∀x∈Y,x.size≤1048576)
  (he:∀l:List aa_,l.length≤1048576→(∀r∈l,szR r)→Ev (fun k=>F k l (Y.length:Int)) (finZ s a c l))
  (hs:∀p x t st R,Y=p++x::t→st.length≤p.length→x.size≤1048576→(∀r,rdR x=some r→Ev (fun k=>F k (st++[r]) ((p.length:Int)+1)) R)→(rdR x=none→R=ZBAD)→Ev (fun k=>F k st (p.length:Int)) R) :
  Ev (fun k=>F k [] 0) (outZ s a c [] (rdLs Y)):=by
 refine bo_ Y (fun k (st:List aa_) i=>F k st i) (fun st t=>outZ s a c st (rdLs t)) (fun p st=>st.length≤p.length∧∀r∈st,szR r) ?_ ?_ [] ⟨by simp,by simp⟩
 ·rintro st ⟨h1,h2⟩
  refine Ev.eq_ (he st (by omega) h2) ?_
  simp[outZ,rdLs]
 ·rintro p x t st e ⟨h1,h2⟩ ih
  refine hs p x t st _ e h1 (hYs x (ci_ e)) (fun r hr=>?_) (fun hn=>?_)
  ·refine Ev.eq_ (ih (st++[r]) ⟨by simp;omega,fun q hq=>?_⟩) ?_
   ·rcases List.mem_append.1 hq with hq|hq
    ·exact h2 q hq
    ·obtain rfl:q=r:=by simpa using hq
     exact okR_sz (rdR_ok hr).1
   ·rw[rdLs,hr]
    simp only
    cases rdLs t with
    | none=>rfl
    | some l=>simp[outZ]
  ·rw[rdLs,hn]
   rfl
theorem implLines (s a:ByteArray) (c:Int) (Y:List ByteArray) (ha:a.size≤1048576) (hY:Y.length≤1048576) (hYs:∀x∈Y,x.size≤1048576):Ev (fun k=>aQ_.l0 k s Y (Y.length:Int) 0 a c []) (outZ s a c [] (rdLs Y)):=by
 refine read_loop s a c Y (fun k st i=>aQ_.l0 k s Y (Y.length:Int) i a c st) hY hYs ?_ ?_
 ·intro l hl hs
  apply Ev.succ
  simp only[aQ_.l0]
  refine Ev.neg (by omega) (Ev.bind' _ (implZone_eq a c l ha hl hs) ?_)
  unfold finZ
  by_cases h:zoneOk a c l=true
  ·refine Ev.pos h (Ev.bind' _ (implText_eq h) ?_)
   by_cases h2:zL a c l=bts s
   ·refine Ev.pos (by rw[aG_,aG_,bc_,h2]) (Ev.const ?_)
    rw[if_pos ⟨h,h2⟩]
   ·refine Ev.neg (by rw[aG_,aG_,bc_];exact h2) (Ev.const ?_)
    rw[if_neg (fun h3=>h2 h3.2)]
    rfl
  ·refine Ev.neg h (Ev.const ?_)
   rw[if_neg (fun h3=>h h3.1)]
   rfl
 ·intro p x t st R e hst hx hy hn
  have hm:=br_ e
  apply Ev.succ
  simp only[aQ_.l0,cd_ e]
  refine Ev.pos hm.1 (Ev.pos (by omega) (Ev.pos hm.1 (Ev.bind' _ (implRead_eq x hx) ?_)))
  rw[w64 (i:=(p.length:Int)+1) (by omega) (by omega)]
  cases hr:rdR x with
  | none=>exact Ev.neg (by simp[outR,RBAD]) (Ev.const (by rw[hn hr];rfl))
  | some r=>exact Ev.pos rfl (Ev.pos (by omega) (hy r hr))
theorem specLines (s a:ByteArray) (c:Int) (Y:List ByteArray) (ha:a.size≤1048576) (hY:Y.length≤1048576) (hYs:∀x∈Y,x.size≤1048576):Ev (fun k=>ay_.l1 k s Y (Y.length:Int) 0 a c []) (outZ s a c [] (rdLs Y)):=by
 refine read_loop s a c Y (fun k st i=>ay_.l1 k s Y (Y.length:Int) i a c st) hY hYs ?_ ?_
 ·intro l hl hs
  apply Ev.succ
  simp only[ay_.l1]
  refine Ev.neg (by omega) (Ev.bind' _ (specZone_eq a c l ha hl hs) ?_)
  unfold finZ
  by_cases h:zoneOk a c l=true
  ·refine Ev.pos h (Ev.bind' _ (specText_eq h) ?_)
   by_cases h2:zL a c l=bts s
   ·refine Ev.pos (by rw[aG_,aG_,bc_,h2]) (Ev.const ?_)
    rw[if_pos ⟨h,h2⟩]
   ·refine Ev.neg (by rw[aG_,aG_,bc_];exact h2) (Ev.const ?_)
    rw[if_neg (fun h3=>h2 h3.2)]
    rfl
  ·refine Ev.neg h (Ev.const ?_)
   rw[if_neg (fun h3=>h h3.1)]
   rfl
 ·intro p x t st R e hst hx hy hn
  have hm:=br_ e
  apply Ev.succ
  simp only[ay_.l1,cd_ e]
  refine Ev.pos hm.1 (Ev.pos (by omega) (Ev.pos hm.1 (Ev.bind' _ (specRead_eq x hx) ?_)))
  rw[w64 (i:=(p.length:Int)+1) (by omega) (by omega)]
  cases hr:rdR x with
  | none=>exact Ev.neg (by simp[outR,RBAD]) (Ev.const (by rw[hn hr];rfl))
  | some r=>exact Ev.pos rfl (Ev.pos (by omega) (hy r hr))
noncomputable def implZ (s:ByteArray):ByteArray × Int × List aa_ × Bool:=match splitC 10 [] (bts s) with
 | []=>ZBAD
 | h::Y=>if Y.length > 40 then ZBAD else match cutB 32 (bts h) with
  | some (p,q)=>outZ s (unT ⟨p.toArray⟩) (atoiV ⟨q.toArray⟩) [] (rdLs Y)
  | none=>outZ s (unT h) (atoiV (⟨#[]⟩:ByteArray)) [] (rdLs Y)
theorem implJ0 (s h y x a:ByteArray) (Y:List ByteArray) (hx:x.size≤1048576) (ha:a.size≤1048576) (hY:Y.length≤1048576) (hYs:∀x∈Y,x.size≤1048576):Ev (fun k=>aQ_.j0 k s (h::Y) x a 0) (outZ s a (atoiV x) [] (rdLs Y)):=by
 obtain⟨o,e⟩:=atoi_eq x hx
 apply Ev.succ
 simp only[aQ_.j0]
 refine Ev.cbind _ e (Ev.pos (by simp<;>omega) (Ev.cbind Y rfl (implLines s a _ Y ha hY hYs)))
theorem implZ_eq (s:ByteArray) (hs:s.size≤1048576):Ev (fun k=>aQ_.f k s) (implZ s):=by
 have hz:=aN_ s
 have hsz:=ct_ 10 (bts s) []
 unfold aQ_.f implZ
 refine Ev.bind' _ (strSplitC_eq 10 s hs) ?_
 have hne:=splitC_ne 10 (bts s) []
 generalize splitC 10 [] (bts s)=L at hsz hne
 cases L with
 | nil=>exact absurd rfl hne
 | cons h Y =>
  have gh:=hsz h (by simp)
  simp only[List.length_nil] at gh
  simp only
  have hYs:∀x∈Y,x.size≤1048576:=fun x hx=>by
   have:=hsz x (by simp[hx])
   simp only[List.length_nil] at this
   omega
  by_cases h40:Y.length > 40
  ·rw[if_pos h40]
   exact Ev.pos (by simp<;>omega) (Ev.const rfl)
  ·rw[if_neg h40]
   have r0:rdOf ByteArray.empty (h::Y) 0=h:=rfl
   rw[r0]
   refine Ev.neg (by simp<;>omega) (Ev.pos (by simp<;>omega) (Ev.cbind _ (strCut32 h (by omega)) ?_))
   have hzh:=aN_ h
   cases hc:cutB 32 (bts h) with
   | none =>
    simp only
    rw[aG_]
    have hu:=unT_size h
    by_cases hd:bts h=[46]
    ·have e:unT h=(⟨#[]⟩:ByteArray):=by unfold unT;rw[if_pos hd]
     rw[e]
     exact Ev.pos hd (implJ0 s h h _ _ Y (by decide) (by decide) (by omega) hYs)
    ·have e:unT h=h:=by unfold unT;rw[if_neg hd]
     rw[e]
     exact Ev.neg hd (implJ0 s h h _ _ Y (by decide) (by omega) (by omega) hYs)
   | some pq =>
    obtain⟨p,q⟩:=pq
    obtain⟨e0,_⟩:=cF_ hc
    have hl:(bts h).length=p.length+(q.length+1):=by rw[e0];simp
    simp only
    rw[aG_]
    by_cases hd:bts (⟨p.toArray⟩:ByteArray)=[46]
    ·have e:unT ⟨p.toArray⟩=(⟨#[]⟩:ByteArray):=by unfold unT;rw[if_pos hd]
     rw[e]
     exact Ev.pos hd (implJ0 s h h _ _ Y (by rw[bM_];omega) (by decide) (by omega) hYs)
    ·have e:unT ⟨p.toArray⟩=(⟨p.toArray⟩:ByteArray):=by unfold unT;rw[if_neg hd]
     rw[e]
     exact Ev.neg hd (implJ0 s h h _ _ Y (by rw[bM_];omega) (by rw[bM_];omega) (by omega) hYs)
def digC (acc:Int):List UInt8→Option Int
 | []=>some acc
 | b::t=>if isDg b=true then(if acc > 115292150460684697 then none else digC (10 * acc+((b.toNat:Int) - 48)) t) else none
theorem digC_yes:∀(l:List UInt8) (acc:Nat),l.all isDg=true→valF acc l≤1152921504606846976→digC (acc:Int) l=some (valF acc l:Int)
 | [],acc,_,_=>by rw[cs_];rfl
 | b::t,acc,h,hv=>by
  simp only[List.all_cons,Bool.and_eq_true] at h
  have hb:=h.1
  simp only[isDg,Bool.and_eq_true,decide_eq_true_eq] at hb
  have hge:=valF_ge t (10 * acc+(b.toNat - 48))
  have hp:1≤10 ^ t.length:=Nat.one_le_pow _ _ (by decide)
  have hm:(10 * acc+(b.toNat - 48)) * 1≤(10 * acc+(b.toNat - 48)) * 10 ^ t.length:=Nat.mul_le_mul_left _ hp
  rw[b6_] at hv ⊢
  unfold digC
  rw[if_pos h.1,if_neg (by omega)]
  have e:10 * (acc:Int)+((b.toNat:Int) - 48)=((10 * acc+(b.toNat - 48):Nat):Int):=by omega
  rw[e]
  exact digC_yes t _ h.2 hv
noncomputable def specZ (s:ByteArray):ByteArray × Int × List aa_ × Bool:=match splitC 10 [] (bts s) with
 | []=>ZBAD
 | h::Y=>match splitC 32 [] (bts h) with
  | [x,y]=>if y.size > 19∨s.size > 8000 then ZBAD else match digC 0 (bts y) with
   | none=>ZBAD
   | some c=>outZ s (unT x) c [] (rdLs Y)
  | _=>ZBAD
def outC (s a:ByteArray) (r:Option (List aa_)):Option Int→ByteArray × Int × List aa_ × Bool
 | none=>ZBAD
 | some c=>outZ s a c [] r
theorem specDig (s h x y a:ByteArray) (Y:List ByteArray) (hy:y.size≤19) (ha:a.size≤1048576) (hY:Y.length≤1048575) (hYs:∀x∈Y,x.size≤1048576):Ev (fun k=>ay_.l0 k s (h::Y) [x,y] 0 a 0) (outC s a (rdLs Y) (digC 0 (bts y))):=by
 have hz:=aN_ y
 have r1:rdOf ByteArray.empty [x,y] 1=y:=rfl
 refine bo_ (bts y) (fun k (st:Int) i=>ay_.l0 k s (h::Y) [x,y] i a st) (fun st t=>outC s a (rdLs Y) (digC st t)) (fun p st=>0≤st∧st≤1152921504606846979) ?_ ?_ 0 (by omega)
 ·rintro st ⟨h0,h1⟩
  apply Ev.succ
  simp only[ay_.l0,r1]
  exact Ev.pos (by simp) (Ev.neg (by omega) (Ev.pos (by simp<;>omega) (Ev.cbind Y rfl (specLines s a st Y ha (by omega) hYs))))
 ·rintro p b t st e ⟨h0,h1⟩ ih
  have hm:=br_ e
  apply Ev.succ
  simp only[ay_.l0,r1]
  refine Ev.pos (by simp) (Ev.pos (by omega) (Ev.pos (by omega) ?_))
  rw[bt_mid e,w64 (i:=(p.length:Int)+1) (by omega) (by omega)]
  by_cases c1:b.toNat<48
  ·refine Ev.pos (by omega) (Ev.const ?_)
   have:isDg b=false:=by unfold isDg;simp;omega
   simp[digC,this,outC,ZBAD]
  ·refine Ev.neg (by omega) ?_
   by_cases c2:b.toNat > 57
   ·refine Ev.pos (by omega) (Ev.const ?_)
    have:isDg b=false:=by unfold isDg;simp;omega
    simp[digC,this,outC,ZBAD]
   ·refine Ev.neg (by omega) ?_
    have hd:isDg b=true:=by unfold isDg;simp;omega
    by_cases c3:st > 115292150460684697
    ·refine Ev.pos c3 (Ev.const ?_)
     simp[digC,hd,c3,outC,ZBAD]
    ·refine Ev.neg c3 ?_
     have e3:wrap64 (wrap64 (10 * st)+((b.toNat:Int) - 48) % 256)=10 * st+((b.toNat:Int) - 48):=by
      rw[w64 (i:=10 * st) (by omega) (by omega),w64 (by omega) (by omega)]
      omega
     rw[e3]
     refine Ev.eq_ (ih _ ⟨by omega,by omega⟩) ?_
     simp[digC,hd,c3]
theorem specZ_eq (s:ByteArray) (hs:s.size≤1048576):Ev (fun k=>ay_.f k s) (specZ s):=by
 have hz:=aN_ s
 have hsz:=ct_ 10 (bts s) []
 have htot:=splitC_len 10 (bts s) []
 have hbad:∀L M,Ev (fun k=>ay_.j0 k s L M true) ZBAD:=fun L M=>by
  apply Ev.succ
  simp only[ay_.j0]
  exact Ev.pos (by first|rfl|trivial) (Ev.const rfl)
 unfold ay_.f specZ
 refine Ev.bind' _ (specSplitC_eq 10 s hs) ?_
 have hne:=splitC_ne 10 (bts s) []
 generalize hLg:splitC 10 [] (bts s)=L at hsz hne htot
 cases L with
 | nil=>exact absurd rfl hne
 | cons h Y =>
  have gh:=hsz h (by simp)
  simp only[List.length_nil,List.length_cons] at gh htot
  simp only
  have hYs:∀x∈Y,x.size≤1048576:=fun x hx=>by
   have:=hsz x (by simp[hx])
   simp only[List.length_nil] at this
   omega
  have hzh:=aN_ h
  have hsz2:=ct_ 32 (bts h) []
  have r0:rdOf ByteArray.empty (h::Y) 0=h:=rfl
  rw[r0]
  refine Ev.pos (by simp<;>omega) (Ev.bind' _ (specSplitC_eq 32 h (by omega)) ?_)
  generalize splitC 32 [] (bts h)=M at hsz2
  match M,hsz2 with
  | [],_=>exact Ev.neg (by simp) (hbad _ _)
  | [_],_=>exact Ev.neg (by simp) (hbad _ _)
  | _::_::_::t,_=>exact Ev.neg (by simp<;>omega) (hbad _ _)
  | [x,y],hsz2 =>
   have gx:=hsz2 x (by simp)
   simp only[List.length_nil] at gx
   have r1:rdOf ByteArray.empty [x,y] 1=y:=rfl
   have r2:rdOf ByteArray.empty [x,y] 0=x:=rfl
   rw[r1]
   simp only
   refine Ev.pos (by simp) (Ev.pos (by simp) ?_)
   by_cases h19:y.size > 19
   ·rw[if_pos (Or.inl h19)]
    exact Ev.pos (by omega) (hbad _ _)
   ·refine Ev.neg (by omega) ?_
    by_cases h8:s.size > 8000
    ·rw[if_pos (Or.inr h8),decide_eq_true (show(s.size:Int) > 8000 by omega)]
     exact hbad _ _
    ·rw[if_neg (by omega),decide_eq_false (show ¬(s.size:Int) > 8000 by omega)]
     have key:∀a:ByteArray,a.size≤1048576→Ev (fun k=>ay_.j1 k s (h::Y) [x,y] a 0) (match digC 0 (bts y) with|none=>ZBAD|some c=>outZ s a c [] (rdLs Y)):=fun a ha=>by
      apply Ev.succ
      simp only[ay_.j1]
      refine Ev.eq_ (specDig s h x y a Y (by omega) ha (by omega) hYs) ?_
      cases digC 0 (bts y)<;>rfl
     apply Ev.succ
     simp only[ay_.j0,r2]
     refine Ev.neg (by simp) (Ev.pos (by simp) ?_)
     rw[aG_]
     by_cases hd:bts x=[46]
     ·have e:unT x=(⟨#[]⟩:ByteArray):=by unfold unT;rw[if_pos hd]
      rw[e]
      exact Ev.pos hd (key _ (by decide))
     ·have e:unT x=x:=by unfold unT;rw[if_neg hd]
      rw[e]
      exact Ev.neg hd (key _ (by omega))
theorem finZ_no {s:ByteArray} (h:∀a c l,¬(zoneOk a c l=true∧zL a c l=bts s)) (a:ByteArray) (c:Int) (r:Option (List aa_)):outZ s a c [] r=ZBAD:=by
 cases r with
 | none=>rfl
 | some l =>
  show finZ s a c ([]++l)=ZBAD
  unfold finZ
  rw[if_neg (h _ _ _)]
theorem both_no {s:ByteArray} (h:∀a c l,¬(zoneOk a c l=true∧zL a c l=bts s)):specZ s=ZBAD∧implZ s=ZBAD:=by
 constructor
 ·unfold specZ
  repeat' (split)
  all_goals first|rfl|exact finZ_no h _ _ _
 ·unfold implZ
  repeat' (split)
  all_goals first|rfl|exact finZ_no h _ _ _
theorem both_yes {s a:ByteArray} {c:Int} {l:List aa_} (h:zoneOk a c l=true) (e:zL a c l=bts s):specZ s=(a,c,l,true)∧implZ s=(a,c,l,true):=by
 obtain⟨h1,h2,h3,h4⟩:=zone_parts h
 have hlen:=zL_len h
 have hz:=aN_ s
 have hlines:=zone_lines c h1 h4
 rw[e] at hlines hlen
 have e2:=dN_len c 19 (by decide) (by omega)
 have hfin:outZ s a c [] (rdLs (l.map (fun x=>(⟨(rL x).toArray⟩:ByteArray))))=(a,c,l,true):=by
  rw[rdLs_lines l h4]
  show finZ s a c ([]++l)=(a,c,l,true)
  unfold finZ
  rw[List.nil_append,if_pos ⟨h,e⟩]
 have hno:(32:UInt8)∉tB a:=name_no h1 (by decide)
 have hno2:(32:UInt8)∉dN c:=dN_no c (by decide)
 constructor
 ·unfold specZ
  rw[hlines]
  simp only[bc_]
  have hsp:splitC 32 [] (hL a c)=[⟨(tB a).toArray⟩,⟨(dN c).toArray⟩]:=by
   unfold hL
   rw[ca_ 32 _ _ [] hno,cM_ 32 _ [] hno2]
   simp
  rw[hsp]
  simp only[bM_,bc_]
  rw[if_neg (by omega)]
  obtain⟨s1,s2⟩:=dec_spells c.toNat
  have hd:digC 0 (dN c)=some c:=by
   have hall:(dN c).all isDg=true:=by
    unfold dN
    simp only[isNumeral,Bool.and_eq_true] at s1
    exact s1.1.2
   have hv:valF 0 (dN c)=c.toNat:=s2
   have:=digC_yes (dN c) 0 hall (by omega)
   rw[hv] at this
   rw[show((0:Nat):Int)=0 from rfl] at this
   rw[this]
   congr 1
   omega
  rw[hd]
  simp only
  rw[unT_told h1]
  exact hfin
 ·unfold implZ
  rw[hlines]
  simp only[List.length_map,bc_]
  rw[if_neg (by omega)]
  have hc:cutB 32 (hL a c)=some (tB a,dN c):=cutB_pre 32 _ _ hno
  rw[hc]
  simp only
  rw[unT_told h1,atoiV_dec c h2.1 h2.2]
  exact hfin
theorem strOfNums_one (x:Int):(strOfNums [x]).size=1:=rfl
theorem markText_eq (a:Int) (h0:0≤a) (h1:a≤4611686018427387904):∃s,Ev (fun k=>aZ_.f k a) s:=by
 have main:∀(n:Nat) (a:Int) (x:ByteArray),a.toNat≤n→0≤a→a≤4611686018427387904→x.size+a.toNat≤4611686018427388904→∃s,Ev (fun k=>aZ_.l0 k a x) s:=by
  intro n
  induction n with
  | zero =>
   intro a x hn h0 h1 hx
   refine⟨(⟨#[109]⟩:ByteArray)++x,Ev.succ ?_⟩
   simp only[aZ_.l0]
   exact Ev.neg (by omega) (Ev.pos (by omega) (Ev.const rfl))
  | succ n ih =>
   intro a x hn h0 h1 hx
   by_cases hp:a > 0
   ·have hd:Int.tdiv a 10=a / 10:=Int.tdiv_eq_ediv_of_nonneg h0
    have hd2:a / 10<a:=by omega
    have hd3:0≤a / 10:=by omega
    have hsz:(strOfNums [(wrap64 (48+Int.tmod a 10)) % 256]++x).size=1+x.size:=by rw[ByteArray.size_append,strOfNums_one]
    obtain⟨s,hs⟩:=ih (a / 10) (strOfNums [(wrap64 (48+Int.tmod a 10)) % 256]++x) (by omega) hd3 (by omega) (by rw[hsz];omega)
    refine⟨s,Ev.succ ?_⟩
    simp only[aZ_.l0]
    refine Ev.pos hp (Ev.cbind _ rfl (Ev.pos (by rw[strOfNums_one];omega) ?_))
    rw[hd,w64 (by omega) (by omega)]
    exact hs
   ·refine⟨(⟨#[109]⟩:ByteArray)++x,Ev.succ ?_⟩
    simp only[aZ_.l0]
    exact Ev.neg hp (Ev.pos (by omega) (Ev.const rfl))
 by_cases h:a≤0
 ·refine⟨⟨#[109,48]⟩,?_⟩
  unfold aZ_.f
  exact Ev.pos h (Ev.const rfl)
 ·obtain⟨s,hs⟩:=main a.toNat a ⟨#[]⟩ (Nat.le_refl _) h0 h1 (by have:(⟨#[]⟩:ByteArray).size=0:=rfl;omega)
  refine⟨s,?_⟩
  unfold aZ_.f
  exact Ev.neg h hs
theorem markRecordS_eq (l:List aa_) (hl:l.length≤1048576) (a:Int) (ha:0≤a) (hb:a≤1073741824):∃r l',Ev (fun k=>ba_.f k l a) (r,l')∧Ev (fun k=>az_.f k l' a) r∧l'.length=l.length∧a≤r∧r≤a+4 * l.length:=by
 unfold ba_.f az_.f
 refine mark_list 4 (by omega) (fun k l a i=>ba_.l0 k l a i) (fun k l a i=>az_.l0 k l a i) 4294967296 ?_ ?_ ?_ l hl a ha (by omega)
 ·intro l a
  apply Ev.succ
  simp only[ba_.l0]
  exact Ev.neg (by omega) (Ev.const rfl)
 ·intro l a
  apply Ev.succ
  simp only[az_.l0]
  exact Ev.neg (by omega) (Ev.const rfl)
 ·intro p x t a hp ha hb
  obtain⟨s,hs⟩:=markText_eq a ha (by omega)
  obtain⟨s2,hs2⟩:=markText_eq (a+1+1+1) (by omega) (by omega)
  refine⟨⟨s,a+1,a+1+1,s2⟩,a+4,by omega,by omega,?_,?_⟩
  ·intro r h
   have hm:=br_ (l:=p++x::t) rfl
   have e4:a+1+1+1+1=a+4:=by omega
   apply Ev.succ
   simp only[ba_.l0]
   rw[w64 (i:=(p.length:Int)+1) (by omega) (by omega),w64 (i:=a+1) (by omega) (by omega),w64 (i:=a+1+1) (by omega) (by omega),w64 (i:=a+1+1+1) (by omega) (by omega),w64 (i:=a+1+1+1+1) (by omega) (by omega)]
   refine Ev.pos hm.1 (Ev.bind' _ hs (Ev.pos (by omega) (Ev.cbind _ rfl (Ev.cbind _ rfl (Ev.cbind _ rfl (Ev.bind' _ hs2 ?_))))))
   simp only[a_,set_mid,List.append_assoc,List.cons_append,List.nil_append,b1_ rfl]
   rw[e4]
   exact h
  ·intro q r hq h
   have hm:=br_ (l:=p++(⟨s,a+1,a+1+1,s2⟩:aa_)::q) rfl
   have e4:a+1+1+1+1=a+4:=by omega
   apply Ev.succ
   simp only[az_.l0,a_,b1_ rfl]
   rw[w64 (i:=(p.length:Int)+1) (by omega) (by omega),w64 (i:=a+1) (by omega) (by omega),w64 (i:=a+1+1) (by omega) (by omega),w64 (i:=a+1+1+1) (by omega) (by omega),w64 (i:=a+1+1+1+1) (by omega) (by omega),e4]
   exact Ev.pos hm.1 (Ev.pos (by omega) (Ev.bind' _ hs (Ev.pos (by trivial) (Ev.pos (by trivial) (Ev.pos (by trivial) (Ev.bind' _ hs2 (Ev.pos (by trivial) h)))))))
theorem markZone_eq (s:ByteArray) (c:Int) (l:List aa_) (hl:l.length≤1048576) (a:Int) (ha:0≤a) (hb:a≤1073741824):∃r l',Ev (fun k=>cU_.f k s c l a) (r,l')∧Ev (fun k=>cH_.f k s c l' a) r∧a≤r:=by
 obtain⟨r,l',x1,x2,x3,x4,x5⟩:=markRecordS_eq l hl a ha hb
 refine⟨r,l',?_,?_,x4⟩
 ·unfold cU_.f
  exact Ev.bind' _ x1 (Ev.const rfl)
 ·unfold cH_.f
  exact Ev.bind' _ x2 (Ev.neg (by omega) (Ev.const rfl))
theorem eqRecord_eq (a:ByteArray) (b c:Int) (d:ByteArray):cJ_.f a b c d a b c d=some true:=by
 unfold cJ_.f
 simp
theorem eqRecordS_eq (l:List aa_) (hl:l.length≤1048576):Ev (fun k=>a2_.f k l l) true:=by
 unfold a2_.f
 refine Ev.pos rfl (eq_list l (fun k i=>a2_.l0 k l l i) ?_ ?_)
 ·apply Ev.succ
  simp only[a2_.l0]
  exact Ev.neg (by omega) (Ev.const rfl)
 ·intro p x t e h
  have hm:=br_ e
  apply Ev.succ
  simp only[a2_.l0]
  rw[w64 (i:=(p.length:Int)+1) (by omega) (by omega)]
  exact Ev.pos hm.1 (Ev.pos (by omega) (Ev.pos hm.1 (Ev.cbind _ (eqRecord_eq _ _ _ _) (Ev.b_ h))))
theorem eqZone_eq (a:ByteArray) (c:Int) (l:List aa_) (hl:l.length≤1048576):Ev (fun k=>cY_.f k a c l a c l) true:=by
 unfold cY_.f
 exact Ev.pos rfl (Ev.pos rfl (Ev.bind' _ (eqRecordS_eq l hl) (Ev.b_ (Ev.const rfl))))
end Go.Proofs.YtbgbbdbolldfcabGreatDoor.PL
end
section
set_option linter.unusedVariables false
set_option linter.unusedSimpArgs false
namespace Go.Proofs.YtbgbbdbolldfcabGreatDoor.Pure
open Go.RowKit Go.Proofs.YtbgbbdbolldfcabGreatDoor.Pp Go.Proofs.YtbgbbdbolldfcabGreatDoor.PB Go.Proofs.YtbgbbdbolldfcabGreatDoor.PL Go.Proofs.YtbgbbdbolldfcabGreatDoorW.PrintWords Go.Proofs.YtbgbbdbolldfcabGreatDoorW.PrintLast
theorem FnExactReadZone:af_.Pure:=by
 intro s _
 refine Ev.get (g:=fun k=>af_.f k s) ?_
 unfold af_.f
 by_cases hs:(s.size:Int) > 1048576
 ·exact Ev.pos hs (Ev.const rfl)
 refine Ev.neg hs ?_
 have hs2:s.size≤1048576:=by omega
 have hsp:=specZ_eq s hs2
 have him:=implZ_eq s hs2
 obtain⟨R,h1,h2,h3⟩:∃R:ByteArray × Int × List aa_ × Bool,specZ s=R∧implZ s=R∧R.2.2.1.length≤1048576:=by
  by_cases h:∃(a:ByteArray) (c:Int) (l:List aa_),zoneOk a c l=true∧zL a c l=bts s
  ·obtain⟨a,c,l,h1,h2⟩:=h
   obtain⟨g1,g2⟩:=both_yes h1 h2
   have:=(zone_parts h1).2.2.1
   exact⟨_,g1,g2,by show l.length≤1048576;omega⟩
  ·obtain⟨g1,g2⟩:=both_no (s:=s) (fun a c l hh=>h ⟨a,c,l,hh⟩)
   exact⟨_,g1,g2,Nat.zero_le _⟩
 rw[h1] at hsp
 rw[h2] at him
 have heq:=eqZone_eq R.1 R.2.1 R.2.2.1 h3
 obtain⟨r,u,a1,a2,a3⟩:=markZone_eq R.1 R.2.1 R.2.2.1 h3 1 (by omega) (by omega)
 exact Ev.bind' _ hsp (Ev.bind' _ him (Ev.bind' _ heq (Ev.b_ (Ev.pos rfl (Ev.bind' _ a1 (Ev.bind' _ a2 (Ev.neg (by omega) (Ev.pos rfl (Ev.neg (by omega) (Ev.const rfl))))))))))
end Go.Proofs.YtbgbbdbolldfcabGreatDoor.Pure
end
