/- Texts that belong together,joined by claimit.py. -/
import Derived.Test.YthohohfmdieohaaGreatDoorZLPTy
import Derived.Test.YthohohfmdieohaaGreatDoorZLPBytes
import Derived.Test.YthohohfmdieohaaGreatDoorJFnExactPassTime0
import Derived.Test.YthohohfmdieohaaGreatDoorJFnExactPassTime1
import Derived.Test.YthohohfmdieohaaGreatDoorJFnExactPassTime2
import Derived.Test.YthohohfmdieohaaGreatDoorJFnExactPassTime3
import Derived.Test.YthohohfmdieohaaGreatDoorJFnExactPassTime4
import Derived.Test.YthohohfmdieohaaGreatDoorZXBase
import Derived.Test.YthohohfmdieohaaGreatDoorLPNumT
import Derived.Test.YthohohfmdieohaaGreatDoorZLPGapQ
section
set_option linter.unusedVariables false
set_option linter.unusedSimpArgs false
namespace Go.Proofs.YthohohfmdieohaaGreatDoor.PL
open Go.RowKit Go.Proofs.YthohohfmdieohaaGreatDoor.Pp Go.Proofs.YthohohfmdieohaaGreatDoor.PB Go.Proofs.YthohohfmdieohaaGreatDoorW.PrintWords Go.Proofs.YthohohfmdieohaaGreatDoorW.PrintLast
def cRec (x:ba_):ae_:=⟨x.f0,x.f1,x.f2,x.f3⟩
theorem szRecordS_eq (l:List ba_) (h:l.length≤maxLen∧∀x∈l,WF_LRecord x) (a:Int) (h0:0≤a) (h1:a≤1048576):Szd (fun k=>br_.f k l a) a (l.length≤1048576∧∀x∈l,x.f0.size≤1048576∧x.f3.size≤1048576):=by
 have hm:maxLen=9223372036854775807:=rfl
 unfold br_.f
 by_cases hl:l.length≤1048576
 ·refine Szd.size _ (by omega) h0 h1 (fun a' e ha hb=>?_)
  rw[e]
  refine Szd.list l hl (fun k a i=>br_.l0 k l a i) (fun x=>x.f0.size≤1048576∧x.f3.size≤1048576) ?_ ?_ a' ha hb
  ·intro a ha hb
   refine⟨a,Ev.succ ?_,Or.inr ⟨ha,Int.le_refl _,trivial⟩⟩
   simp only[br_.l0]
   exact Ev.neg (by omega) (Ev.const rfl)
  ·intro p x t a e ha hb _ C hC
   have hm2:=bs_ e
   have hx:=h.2 x (cn_ e)
   have hel:Szd (fun _:Nat=>laws_szRecord.f x.f0 x.f1 x.f2 x.f3 a) a (x.f0.size≤1048576∧x.f3.size≤1048576):=by
    unfold laws_szRecord.f
    refine(Szd.size _ (by have:=hx.1;omega) ha hb (fun a' e2 ha' hb'=>?_))
    rw[e2]
    exact(Szd.size _ (by have:=hx.2.2.2;omega) ha' hb' (fun a'' e3 ha'' hb''=>by rw[e3];exact Szd.end_ ha'')).mono (fun h=>h.1)
   obtain⟨r,hr,hh⟩:=Szd.cbind (g:=fun k t=>br_.l0 k l t ((p.length:Int)+1)) hel hb (fun r h3 h4=>hC r h3 h4)
   refine⟨r,Ev.succ ?_,hh⟩
   simp only[br_.l0,aX_,b6_ e]
   rw[w64 (i:=(p.length:Int)+1) (by omega) (by omega)]
   exact Ev.pos hm2.1 (Ev.pos (by omega) hr)
 ·have:=h.1
  refine⟨-1,Ev.pos ?_ (Ev.const rfl),Or.inl (by omega)⟩
  rw[w64 (by omega) (by omega)]
  omega
theorem toRecordS_eq (l:List ba_) (hl:l.length≤1048576):Ev (fun k=>bq_.f k l) (l.map cRec):=by
 unfold bq_.f
 refine Ev.pos (by omega) (Ev.pos (by simp;omega) ?_)
 refine to_list l cRec (fun k s i=>bq_.l0 k l s i) ?_ ?_ _ (by simp)
 ·intro s
  apply Ev.succ
  simp only[bq_.l0]
  exact Ev.neg (by omega) (Ev.const rfl)
 ·intro p x t s r e hs h
  have hm:=bs_ e
  apply Ev.succ
  simp only[bq_.l0,aX_,b6_ e]
  rw[w64 (i:=(p.length:Int)+1) (by omega) (by omega)]
  exact Ev.pos hm.1 (Ev.pos (by omega) (Ev.cbind _ rfl (Ev.pos (by omega) h)))
theorem eqRecord_eq (a:ByteArray) (b c:Int) (d:ByteArray):laws_eqRecord.f a b c d a b c d=some true:=by
 unfold laws_eqRecord.f
 simp
theorem eqRecordS_eq (l:List ae_) (hl:l.length≤1048576):Ev (fun k=>aU_.f k l l) true:=by
 unfold aU_.f
 refine Ev.pos rfl (eq_list l (fun k i=>aU_.l0 k l l i) ?_ ?_)
 ·apply Ev.succ
  simp only[aU_.l0]
  exact Ev.neg (by omega) (Ev.const rfl)
 ·intro p x t e h
  have hm:=bs_ e
  apply Ev.succ
  simp only[aU_.l0]
  rw[w64 (i:=(p.length:Int)+1) (by omega) (by omega)]
  exact Ev.pos hm.1 (Ev.pos (by omega) (Ev.pos hm.1 (Ev.cbind _ (eqRecord_eq _ _ _ _) (Ev.a3_ h))))
def inR (a b c:Int):Bool:=decide (b≤a∧a≤c)
theorem l1In_eq (a b c:Int):a6_.f a b c=some (inR a b c):=by
 unfold a6_.f inR
 by_cases h:a≥b
 ·rw[if_pos h];simp[h]
 ·rw[if_neg h];simp;omega
theorem within_eq (a b c:Int):aV_.f a b c=some (inR a b c):=by
 unfold aV_.f inR
 by_cases h:a≥b
 ·rw[if_pos h];simp[h]
 ·rw[if_neg h];simp;omega
theorem aq_.idx (l0:List ByteArray) (q:ByteArray→Bool) (hl:l0.length≤1048576) (h:∀x∈l0,Ev (fun k=>ct_.f x) (q x)):Ev (fun k=>aq_.f k l0 ) (idxP q l0):=by
 unfold aq_.f
 refine Ev.eq_ (bD_ l0 (fun k (_:Nat) i=>aq_.l0 k l0 (l0.length:Int) i) (fun n t=>if 0≤idxP q t then(n:Int)+idxP q t else -1) (fun p n=>n=p.length) ?_ ?_ 0 rfl) ?_
 ·intro n hn
  apply Ev.succ
  simp only[aq_.l0]
  exact Ev.neg (by omega) (Ev.const (by simp[idxP]))
 ·intro p x t n e hn ih
  have hm:=bs_ e
  have hx:=h x (cn_ e)
  apply Ev.succ
  simp only[aq_.l0,rdOf_mid e]
  refine Ev.pos hm.1 (Ev.pos (by omega) (Ev.pos hm.1 (Ev.bind' _ hx ?_)))
  have hq:idxP q (x::t)=(if q x then 0 else if 0≤idxP q t then idxP q t+1 else -1):=rfl
  rw[hq]
  cases q x with
  | true=>exact Ev.a3_ (Ev.const (by simp[hn]))
  | false =>
   refine Ev.a1_ ?_
   rw[w64 (by omega) (by omega)]
   refine Ev.eq_ (ih (n+1) (by simp[hn])) ?_
   by_cases h2:0≤idxP q t
   ·simp[h2];omega
   ·simp[h2]
 ·by_cases h2:0≤idxP q l0
  ·simp[h2]
  ·rw[if_neg h2]
   exact(idxP_neg q l0 h2).symm
theorem aW_.any (l0:List ByteArray) (q:ByteArray→Bool) (hl:l0.length≤1048576) (h:∀x∈l0,Ev (fun k=>ct_.f x) (q x)):Ev (fun k=>aW_.f k l0 ) (l0.any q):=by
 unfold aW_.f
 refine Ev.bind' _ (aq_.idx l0  q hl h) (Ev.const ?_)
 rw[idxP_nonneg]
def okB (b:UInt8):Bool:=(decide (97≤(b.toNat:Int))&&decide ((b.toNat:Int)≤122))||(decide (48≤(b.toNat:Int))&&decide ((b.toNat:Int)≤57))||decide ((b.toNat:Int)=45)||decide ((b.toNat:Int)=95)
def labelOk (s:ByteArray):Bool:=decide (bts s=[42])||((bts s).all okB&&inR (bts s).length 1 20)
def labels (s:ByteArray):List ByteArray:=if bts s=[] then [] else splitC 46 [] (bts s)
def nameOk (s:ByteArray):Bool:=decide ((bts s).length≤60)&&decide ((labels s).length≤8)&&(labels s).all labelOk
theorem specSplit_eq (s:ByteArray) (hs:s.size≤1048576):Ev (fun k=>a9_.f k s 46) (splitC 46 [] (bts s)):=by
 unfold a9_.f
 have hz:=bE_ s
 refine Ev.eq_ (bD_ (bts s) (fun k (st:List ByteArray × Nat × List UInt8) i=>a9_.l0 k s 46 st.1 st.2.1 i) (fun st t=>st.1++splitC 46 st.2.2 t) (fun p st=>st.2.1≤p.length∧st.2.2=p.drop st.2.1∧st.1.length≤p.length) ?_ ?_ ([],0,[]) ⟨Nat.zero_le _,rfl,Nat.zero_le _⟩) (by simp)
 ·rintro⟨acc,fr,cur⟩ ⟨h1,h2,h3⟩
  apply Ev.succ
  simp only[a9_.l0]
  simp only at h1 h2 h3
  refine Ev.neg (by omega) (Ev.pos (by omega) (Ev.pos (by omega) (Ev.pos (by omega) (Ev.const ?_))))
  simp only[splitC]
  rw[extract_bts,h2]
  congr 4
  rw[List.take_of_length_le]
  ·simp
  ·simp[hz]
 ·rintro p b t ⟨acc,fr,cur⟩ e ⟨h1,h2,h3⟩ ih
  have hm:=bs_ e
  simp only at h1 h2 h3
  apply Ev.succ
  simp only[a9_.l0]
  refine Ev.pos (by omega) (Ev.pos (by omega) ?_)
  rw[bt_mid e,w64 (i:=(p.length:Int)+1) (by omega) (by omega)]
  by_cases hb:b=46
  ·subst hb
   refine Ev.pos (by decide) (Ev.pos (by omega) (Ev.pos (by omega) (Ev.pos (by omega) (Ev.pos (by omega) ?_))))
   have hx:s.extract ((fr:Nat):Int).toNat ((p.length:Nat):Int).toNat=⟨cur.toArray⟩:=by
    rw[extract_bts,h2]
    congr 2
    rw[e]
    simp only[Int.toNat_natCast]
    rw[List.drop_append_of_le_length h1,List.take_append_of_le_length (by simp),List.take_of_length_le (by simp)]
   rw[hx]
   have hc:((p.length:Int)+1)=(((p.length+1:Nat)):Int):=by omega
   refine Ev.eq_ (ih (acc++[⟨cur.toArray⟩],p.length+1,[]) ⟨by simp,by simp,by simp;omega⟩) ?_
   simp[splitC]
  ·have:¬((b.toNat:Int)=46):=by
    intro h
    apply hb
    apply UInt8.toNat_inj.mp
    have h46:(46:UInt8).toNat=46:=rfl
    omega
   refine Ev.neg this ?_
   refine Ev.eq_ (ih (acc,fr,cur++[b]) ⟨by simp;omega,?_,by simp;omega⟩) ?_
   ·simp only
    rw[h2,List.drop_append_of_le_length h1]
   ·simp[splitC,hb]
theorem genSplit_loop (n:Nat) (hn:n≤1048576):∀(m:Nat) (s:ByteArray) (A B:List ByteArray),s.size≤1048576→Go.Lib.countByte (bts s) 46=m→A.length+m=n→A.length+B.length=n+1 →
  Ev (fun k=>aS_.l0 k s (⟨#[46]⟩:ByteArray) 0 (n:Int) (A++B) (A.length:Int)) (A++splitC 46 [] (bts s))
 | 0,s,A,B,hs,hc,hA,hB=>by
  obtain⟨hnone,_⟩:=index_none _ _ hc
  apply Ev.succ
  simp only[aS_.l0]
  have hl:(A++B).length=n+1:=by simp;omega
  refine Ev.neg (by omega) (Ev.pos (by omega) (Ev.pos (by rw[hl];omega) ?_))
  rw[w64 (i:=(A.length:Int)+1) (by omega) (by omega)]
  refine Ev.pos (by omega) (Ev.pos (by rw[hl];omega) (Ev.const ?_))
  rw[splitC_none _ _ _ hnone]
  obtain⟨b,B',rfl⟩:∃b B',B=b::B':=by
   cases B with
   | nil=>simp at hB;omega
   | cons b B'=>exact⟨b,B',rfl⟩
  rw[set_mid]
  have:(((A.length:Int)+1)).toNat=(A++[s]).length:=by simp<;>omega
  rw[this,List.take_left']
  ·simp[mk_bts]
  ·rfl
 | m+1,s,A,B,hs,hc,hA,hB=>by
  obtain⟨pre,post,e,hm,hi,hc2⟩:=index_some (bts s) 46 (by omega)
  have hz:=bE_ s
  have hlen:(bts s).length=pre.length+(post.length+1):=by rw[e];simp
  apply Ev.succ
  simp only[aS_.l0]
  have hl:(A++B).length=n+1:=by simp;omega
  refine Ev.pos (by omega) (Ev.cbind (pre.length:Int) ?_ ?_)
  ·unfold cb_.f
   rw[if_pos (by rfl)]
   exact congrArg some hi
  ·refine Ev.neg (by omega) ?_
   have hsz1:((⟨#[46]⟩:ByteArray).size:Int)=1:=rfl
   rw[hsz1,Int.add_zero,w64 (i:=(pre.length:Int)) (by omega) (by omega),w64 (i:=(pre.length:Int)+1) (by omega) (by omega),w64 (i:=(A.length:Int)+1) (by omega) (by omega)]
   refine Ev.pos (by omega) (Ev.pos (by omega) (Ev.pos (by omega) (Ev.pos (by rw[hl];omega) (Ev.pos (by omega) (Ev.pos (by omega) ?_)))))
   obtain⟨b,B',rfl⟩:∃b B',B=b::B':=by
    cases B with
    | nil=>simp at hB;omega
    | cons b B'=>exact⟨b,B',rfl⟩
   rw[set_mid]
   have hx1:s.extract 0 ((pre.length:Int)).toNat=⟨pre.toArray⟩:=by
    rw[extract_bts]
    congr 2
    rw[e]
    simp
   have hx2:s.extract (((pre.length:Int)+1)).toNat s.size=⟨post.toArray⟩:=by
    rw[extract_bts]
    congr 2
    have e':bts s=(pre++[46])++post:=by simpa using e
    have h1:(((pre.length:Int)+1)).toNat=(pre++[46]).length:=by simp<;>omega
    rw[e',h1,List.drop_left,List.take_of_length_le]
    simp at hlen ⊢
    omega
   rw[hx1,hx2]
   have hb1:bts (⟨post.toArray⟩:ByteArray)=post:=bts_mk post
   have hb2:(⟨post.toArray⟩:ByteArray).size=post.length:=by rw[bE_,hb1]
   have:=genSplit_loop n hn m ⟨post.toArray⟩ (A++[⟨pre.toArray⟩]) B' (by omega) (by rw[hb1];omega) (by simp;omega) (by simp at hB ⊢;omega)
   have hcast:(((A++[(⟨pre.toArray⟩:ByteArray)]).length:Nat):Int)=(A.length:Int)+1:=by simp
   rw[hcast] at this
   refine Ev.eq_ this ?_
   rw[hb1,e,splitC_pre _ _ _ _ hm]
   simp
theorem strSplit_eq (s:ByteArray) (hs:s.size≤1048576):Ev (fun k=>ca_.f k s (⟨#[46]⟩:ByteArray)) (splitC 46 [] (bts s)):=by
 unfold ca_.f aS_.f
 have hz:=bE_ s
 have hcl:=count_le (bts s) 46
 refine Ev.bind' _ (Ev.neg (by omega) (Ev.neg (by rw[b4_];decide) (Ev.pos (by omega) (Ev.cbind (Go.Lib.countByte (bts s) 46:Int) (by unfold strings_Count.f;rw[if_pos (by rfl)];rfl) ?_)))) (Ev.const rfl)
 apply Ev.succ
 simp only[aS_.j0]
 rw[w64 (i:=((Go.Lib.countByte (bts s) 46:Nat):Int)+1) (by omega) (by omega),w64 (i:=(s.size:Int)+1) (by omega) (by omega)]
 have hmn:mn (((Go.Lib.countByte (bts s) 46:Nat):Int)+1) ((s.size:Int)+1)=((Go.Lib.countByte (bts s) 46+1:Nat):Int):=by
  unfold mn
  split<;>omega
 rw[hmn]
 rw[w64 (i:=((Go.Lib.countByte (bts s) 46+1:Nat):Int) - 1) (by omega) (by omega)]
 refine Ev.pos (by omega) (Ev.pos (by omega) ?_)
 have h1:(((Go.Lib.countByte (bts s) 46+1:Nat):Int) - 1)=((Go.Lib.countByte (bts s) 46:Nat):Int):=by omega
 rw[h1]
 have:=genSplit_loop (Go.Lib.countByte (bts s) 46) (by omega) _ s [] (List.replicate ((Go.Lib.countByte (bts s) 46+1:Nat):Int).toNat (⟨#[]⟩:ByteArray)) hs rfl (by simp) (by simp)
 simpa using this
theorem okB_in (b:UInt8):([97,98,99,100,101,102,103,104,105,106,107,108,109,110,111,112,113,114,115,116,117,118,119,120,121,122,48,49,50,51,52,53,54,55,56,57,45,95]:List UInt8).contains b=okB b :=
 all8 (fun b=>([97,98,99,100,101,102,103,104,105,106,107,108,109,110,111,112,113,114,115,116,117,118,119,120,121,122,48,49,50,51,52,53,54,55,56,57,45,95]:List UInt8).contains b) okB (by decide +kernel) b
theorem isLabel_eq (s:ByteArray) (hs:s.size≤1048576):impl_isLabel.f s=some (labelOk s):=by
 have hz:=bE_ s
 unfold impl_isLabel.f labelOk
 rw[b4_]
 by_cases h:bts s=[42]
 ·rw[if_pos h];simp[h]
 ·rw[if_neg h,within_eq]
  simp only[Option.bind_some,h,decide_false,Bool.false_or]
  rw[hz]
  cases hr:inR ((bts s).length:Int) 1 20 with
  | false=>simp
  | true =>
   simp only[if_true,Bool.and_true]
   unfold strings_Trim.f
   rw[if_pos ⟨by omega,by decide,by decide +kernel⟩]
   simp only[Option.bind_some]
   congr 1
   rw[b4_,bts_mk,trimS_nil]
   congr 1
   funext b
   exact okB_in b
theorem specLabel_eq (s:ByteArray) (hs:s.size≤1048576):Ev (fun k=>bf_.f k s) (labelOk s):=by
 have hz:=bE_ s
 unfold bf_.f labelOk
 rw[b4_]
 by_cases h:bts s=[42]
 ·exact Ev.pos h (Ev.const (by simp[h]))
 ·refine Ev.neg h ?_
  refine Ev.eq_ (bD_ (bts s) (fun k (_:Unit) i=>bf_.l0 k s i) (fun _ t=>t.all okB&&inR (bts s).length 1 20) (fun _ _=>True) ?_ ?_ () trivial) (by simp[h])
  ·intro _ _
   apply Ev.succ
   simp only[bf_.l0]
   refine Ev.neg (by omega) (Ev.cbind _ (l1In_eq _ _ _) (Ev.const (by simp[hz])))
  ·intro p b t _ e _ ih
   have hm:=bs_ e
   apply Ev.succ
   simp only[bf_.l0]
   refine Ev.pos (by omega) (Ev.pos (by omega) ?_)
   rw[bt_mid e,w64 (i:=(p.length:Int)+1) (by omega) (by omega)]
   have hgo:=ih () trivial
   have hb:=b.toNat_lt
   have key:∀(g:Nat→Option Bool),(okB b=true→Ev g (t.all okB&&inR (bts s).length 1 20))→(okB b=false→Ev g false)→Ev g ((b::t).all okB&&inR (bts s).length 1 20):=by
    intro g h1 h2
    cases ho:okB b with
    | true=>simpa[ho] using h1 ho
    | false=>simpa[ho] using h2 ho
   refine key _ (fun ho=>?_) (fun ho=>?_)
   ·simp only[okB,Bool.or_eq_true,Bool.and_eq_true,decide_eq_true_eq] at ho
    by_cases c1:(b.toNat:Int)≥97
    ·refine Ev.pos c1 ?_
     by_cases c2:(b.toNat:Int)≤122
     ·exact Ev.pos c2 hgo
     ·refine Ev.neg c2 (Ev.pos (by omega) (Ev.neg (by omega) (Ev.neg (by omega) (Ev.neg (by omega) ?_))))
      omega
    ·refine Ev.neg c1 ?_
     by_cases c3:(b.toNat:Int)≥48
     ·refine Ev.pos c3 ?_
      by_cases c4:(b.toNat:Int)≤57
      ·exact Ev.pos c4 hgo
      ·refine Ev.neg c4 ?_
       by_cases c5:(b.toNat:Int)=45
       ·exact Ev.pos c5 hgo
       ·exact Ev.neg c5 (Ev.pos (by omega) hgo)
     ·refine Ev.neg c3 ?_
      by_cases c5:(b.toNat:Int)=45
      ·exact Ev.pos c5 hgo
      ·exact Ev.neg c5 (Ev.pos (by omega) hgo)
   ·simp only[okB,Bool.or_eq_false_iff,Bool.and_eq_false_iff,decide_eq_false_iff_not] at ho
    by_cases c1:(b.toNat:Int)≥97
    ·exact Ev.pos c1 (Ev.neg (by omega) (Ev.pos (by omega) (Ev.neg (by omega) (Ev.neg (by omega) (Ev.neg (by omega) (Ev.const rfl))))))
    ·refine Ev.neg c1 ?_
     by_cases c3:(b.toNat:Int)≥48
     ·exact Ev.pos c3 (Ev.neg (by omega) (Ev.neg (by omega) (Ev.neg (by omega) (Ev.const rfl))))
     ·exact Ev.neg c3 (Ev.neg (by omega) (Ev.neg (by omega) (Ev.const rfl)))
theorem splitC_sizes (c:UInt8):∀(l cur:List UInt8),∀x∈splitC c cur l,x.size≤cur.length+l.length
 | [],cur,x,h=>by
  simp only[splitC,List.mem_singleton] at h
  subst h
  rw[bE_,bts_mk]
  simp
 | b::l,cur,x,h=>by
  unfold splitC at h
  split at h
  ·rcases List.mem_cons.mp h with rfl|h2
   ·rw[bE_,bts_mk];simp
   ·have:=splitC_sizes c l [] x h2
    simp at this ⊢
    omega
  ·have:=splitC_sizes c l (cur++[b]) x h
   simp at this ⊢
   omega
theorem specLabels_eq (s:ByteArray) (hs:s.size≤1048576):Ev (fun k=>a4_.f k s) (if (labels s).all labelOk=true then(labels s,decide ((bts s).length≤60)&&decide ((labels s).length≤8)) else([],false)):=by
 have hz:=bE_ s
 unfold a4_.f
 rw[b4_]
 by_cases h:bts s=[]
 ·refine Ev.pos h (Ev.const ?_)
  have:labels s=[]:=by unfold labels;rw[if_pos h]
  simp[this,h]
 ·have hlab:labels s=splitC 46 [] (bts s):=by unfold labels;rw[if_neg h]
  rw[hlab]
  refine Ev.neg h (Ev.bind' _ (specSplit_eq s hs) ?_)
  have hlen:=splitC_len 46 (bts s) []
  have hsz:=splitC_sizes 46 (bts s) []
  generalize splitC 46 [] (bts s)=L at hlen hsz
  refine Ev.eq_ (bD_ L (fun k (_:Unit) i=>a4_.l0 k s L L (L.length:Int) i) (fun _ t=>if t.all labelOk=true then(L,decide ((bts s).length≤60)&&decide (L.length≤8)) else([],false)) (fun _ _=>True) ?_ ?_ () trivial) rfl
  ·intro _ _
   apply Ev.succ
   simp only[a4_.l0]
   refine Ev.neg (by omega) ?_
   by_cases h60:(s.size:Int)≤60
   ·refine Ev.pos h60 (Ev.const ?_)
    have:(bts s).length≤60:=by omega
    simp[this]
    omega
   ·refine Ev.neg h60 (Ev.const ?_)
    have:¬(bts s).length≤60:=by omega
    simp[this]
  ·intro p x t _ e _ ih
   have hm:=bs_ e
   have hx:x.size≤1048576:=by have:=hsz x (cn_ e);simp at this;omega
   apply Ev.succ
   simp only[a4_.l0,rdOf_mid e]
   refine Ev.pos hm.1 (Ev.pos (by omega) (Ev.pos hm.1 (Ev.bind' _ (specLabel_eq x hx) ?_)))
   cases hl:labelOk x with
   | false=>exact Ev.a1_ (Ev.const (by simp[hl]))
   | true =>
    refine Ev.a3_ ?_
    rw[w64 (i:=(p.length:Int)+1) (by omega) (by omega)]
    refine Ev.eq_ (ih () trivial) ?_
    simp[hl]
theorem specGoodName_eq (s:ByteArray) (hs:s.size≤1048576):Ev (fun k=>bQ_.f k s) (nameOk s):=by
 unfold bQ_.f nameOk
 refine Ev.bind' _ (specLabels_eq s hs) (Ev.const ?_)
 cases(labels s).all labelOk<;>simp
theorem labelsOf_eq (s:ByteArray) (hs:s.size≤1048576):Ev (fun k=>bH_.f k s) (labels s):=by
 unfold bH_.f labels
 rw[b4_]
 by_cases h:bts s=[]
 ·exact Ev.pos h (Ev.const (by rw[if_pos h]))
 ·rw[if_neg h]
  exact Ev.neg h (Ev.bind' _ (strSplit_eq s hs) (Ev.const rfl))
theorem labels_len (s:ByteArray):(labels s).length≤s.size+1:=by
 have hz:=bE_ s
 unfold labels
 split
 ·simp
 ·have:=splitC_len 46 (bts s) [];omega
theorem labels_sizes (s:ByteArray):∀x∈labels s,x.size≤s.size:=by
 have hz:=bE_ s
 unfold labels
 split
 ·simp
 ·intro x hx
  have:=splitC_sizes 46 (bts s) [] x hx
  simp at this
  omega
theorem implGoodName_eq (s:ByteArray) (hs:s.size≤1048576):Ev (fun k=>bt_.f k s) (nameOk s):=by
 have hz:=bE_ s
 have hll:=labels_len s
 have hls:=labels_sizes s
 unfold bt_.f nameOk
 by_cases h:(s.size:Int) > 60
 ·refine Ev.pos h (Ev.const ?_)
  have:¬(bts s).length≤60:=by omega
  simp[this]
 ·refine Ev.neg h (Ev.bind' _ (labelsOf_eq s hs) ?_)
  have h60:(bts s).length≤60:=by omega
  by_cases h8:((labels s).length:Int)≤8
  ·refine Ev.pos h8 (Ev.bind' _ (aW_.any (labels s) (fun x => !labelOk x) (by omega) ?_) (Ev.const ?_))
   ·intro x hx
    unfold ct_.f
    exact Ev.cbind _ (isLabel_eq x (by have:=hls x hx;omega)) (Ev.const rfl)
   ·have h8':(labels s).length≤8:=by omega
    rw[any_not]
    simp[h60,h8']
  ·refine Ev.neg h8 (Ev.const ?_)
   have h8':¬(labels s).length≤8:=by omega
   simp[h8']
theorem numberIn_eq (s:ByteArray) (hs:s.size≤1048576) (most:Int) (hm:most≤9999999999):∃v,bU_.f s most=some (v,numOk (bts s) most)∧(numOk (bts s) most=true→v=numOf (bts s)):=by
 unfold bU_.f
 rw[if_pos (by omega)]
 have h:=number_in (bts s) most hm
 have e:bts s=s.data.toList:=rfl
 rw[e] at h ⊢
 cases hA:Go.Lib.atoiAll s.data.toList with
 | ok v =>
  rw[hA] at h
  simp only at h ⊢
  exact⟨v,by rw[h.1],h.2⟩
 | range =>
  rw[hA] at h
  simp only at h ⊢
  exact⟨_,by rw[h],fun h2=>by rw[h] at h2;cases h2⟩
 | _ =>
  rw[hA] at h
  simp only at h ⊢
  exact⟨0,by rw[h],fun h2=>by rw[h] at h2;cases h2⟩
theorem l1Int_eq (s:ByteArray) (hs:s.size≤1048576):Ev (fun k=>a2_.f k s) (numOf (bts s)):=by
 have hz:=bE_ s
 unfold a2_.f
 refine Ev.cbind _ (l1In_eq _ _ _) ?_
 have hend:∀b,b=true→numOf (bts s) = -1→Ev (fun k=>a2_.j0 k s b) (numOf (bts s)):=by
  intro b hb hn
  subst hb
  apply Ev.succ
  simp only[a2_.j0]
  exact Ev.pos (by first|rfl|trivial) (Ev.const (by rw[hn]))
 cases hr:inR (s.size:Int) 1 10 with
 | false =>
  refine Ev.a1_ (hend true rfl ?_)
  unfold inR at hr
  simp only[Bool.and_eq_false_iff,decide_eq_false_iff_not] at hr
  unfold numOf
  rw[if_neg]
  rintro⟨h1,h2⟩
  have:bts s≠[]:=by
   intro e
   rw[e] at h1
   simp[isNumeral] at h1
  have h3:0<(bts s).length:=List.length_pos_iff.mpr this
  omega
 | true =>
  refine Ev.a3_ ?_
  unfold inR at hr
  simp only[Bool.and_eq_true,decide_eq_true_eq] at hr
  refine Ev.pos (by omega) ?_
  obtain⟨b,t,e⟩:∃b t,bts s=b::t:=by
   cases h:bts s with
   | nil =>
    have h0:(bts s).length=0:=by rw[h];rfl
    omega
   | cons b t=>exact⟨b,t,rfl⟩
  have hb0:bt s 0=(b.toNat:Int):=bt_mid (p:=[]) e
  have loop:(bts s).length≤10→Ev (fun k=>a2_.l0 k s 0 0) (if (bts s).all isDg=true then(valF 0 (bts s):Int) else -1):=by
   intro h10
   refine Ev.eq_ (bD_ (bts s) (fun k (st:Nat) i=>a2_.l0 k s (st:Int) i) (fun st u=>if u.all isDg=true then(valF st u:Int) else -1) (fun p st=>st<10 ^ p.length) ?_ ?_ 0 (by simp)) rfl
   ·intro st hst
    apply Ev.succ
    simp only[a2_.l0]
    exact Ev.neg (by omega) (Ev.const (by simp[valF_nil]))
   ·intro p c u st e2 hst ih
    have hm:=bs_ e2
    have hp:10 ^ p.length≤10 ^ 9:=Nat.pow_le_pow_right (by decide) (by omega)
    apply Ev.succ
    simp only[a2_.l0]
    refine Ev.pos (by omega) (Ev.pos (by omega) ?_)
    rw[bt_mid e2,w64 (i:=(p.length:Int)+1) (by omega) (by omega),w64 (i:=10 * (st:Int)) (by omega) (by omega)]
    by_cases h1:c.toNat<48
    ·refine Ev.pos (by omega) (Ev.const ?_)
     have:isDg c=false:=by unfold isDg;simp;omega
     simp[this]
    ·refine Ev.neg (by omega) ?_
     by_cases h2:c.toNat > 57
     ·refine Ev.pos (by omega) (Ev.const ?_)
      have:isDg c=false:=by unfold isDg;simp;omega
      simp[this]
     ·refine Ev.neg (by omega) ?_
      have hd:isDg c=true:=by unfold isDg;simp;omega
      have e3:wrap64 (10 * (st:Int)+((c.toNat:Int) - 48) % 256)=((10 * st+(c.toNat - 48):Nat):Int):=by
       rw[w64 (by omega) (by omega)]
       omega
      rw[e3]
      refine Ev.eq_ (ih (10 * st+(c.toNat - 48)) ?_) ?_
      ·simp only[List.length_append,List.length_cons,List.length_nil,Nat.pow_succ]
       omega
      ·simp[hd,cj_]
  have h10:(bts s).length≤10:=by omega
  rw[hb0]
  by_cases h48:(b.toNat:Int)=48
  ·refine Ev.pos h48 ?_
   have hb:b=48:=by
    apply UInt8.toNat_inj.mp
    have h2:(48:UInt8).toNat=48:=rfl
    omega
   by_cases ht:t=[]
   ·have h1:(s.size:Int)=1:=by rw[hz,e,ht];rfl
    have hd:decide ((s.size:Int) > 1)=false:=by simp;omega
    rw[hd]
    apply Ev.succ
    simp only[a2_.j0]
    refine Ev.a1_ (Ev.eq_ (loop h10) ?_)
    rw[e,ht,hb]
    decide
   ·have hl:2≤(bts s).length:=by
     rw[e]
     have:=List.length_pos_iff.mpr ht
     simp only[List.length_cons]
     omega
    have hd:decide ((s.size:Int) > 1)=true:=by simp;omega
    rw[hd]
    refine hend true rfl ?_
    unfold numOf
    rw[if_neg]
    rintro⟨h1,h2⟩
    rw[e] at h1 hl
    simp only[List.length_cons] at hl
    simp[isNumeral,hb] at h1
    have:=h1.2
    subst this
    simp at hl
  ·refine Ev.neg h48 ?_
   apply Ev.succ
   simp only[a2_.j0]
   refine Ev.a1_ (Ev.eq_ (loop h10) ?_)
   have hne:b≠48:=fun h=>h48 (by rw[h];rfl)
   unfold numOf isNumeral
   rw[e]
   have hl:(b::t).length≤10:=by rw[←e];exact h10
   cases ha:(b::t).all isDg<;>simp[ha,hne,hl]<;>simp_all
def byt1 (n:Int):ByteArray:=strOfNums [n % 256]
def byt2 (n:Int):ByteArray:=strOfNums [n / 256 % 256,n % 256]
def byt4 (n:Int):ByteArray:=strOfNums [n / 16777216 % 256,n / 65536 % 256,n / 256 % 256,n % 256]
theorem number1_eq (n:Int):Ev (fun k=>aM_.f k n 1) (byt1 n):=by
 unfold aM_.f
 refine Ev.pos (by omega) (Ev.pos (by decide) ?_)
 rw[w64 (by omega) (by omega)]
 show Ev (fun k=>aM_.l0 k n [0] 0) _
 apply Ev.succ
 simp only[aM_.l0]
 refine Ev.pos (by omega) (Ev.pos (by omega) (Ev.pos (by decide) ?_))
 rw[w64 (by omega) (by omega)]
 apply Ev.succ
 simp only[aM_.l0]
 exact Ev.neg (by omega) (Ev.const rfl)
theorem number2_eq (n:Int):Ev (fun k=>aM_.f k n 2) (byt2 n):=by
 unfold aM_.f
 refine Ev.pos (by omega) (Ev.pos (by decide) ?_)
 rw[w64 (by omega) (by omega)]
 show Ev (fun k=>aM_.l0 k n [0,0] 1) _
 apply Ev.succ
 simp only[aM_.l0]
 refine Ev.pos (by omega) (Ev.pos (by omega) (Ev.pos (by decide) ?_))
 rw[w64 (by omega) (by omega)]
 show Ev (fun k=>aM_.l0 k (n / 256) [0,n % 256] 0) _
 apply Ev.succ
 simp only[aM_.l0]
 refine Ev.pos (by omega) (Ev.pos (by omega) (Ev.pos (by simp) ?_))
 rw[w64 (by omega) (by omega)]
 apply Ev.succ
 simp only[aM_.l0]
 exact Ev.neg (by omega) (Ev.const rfl)
theorem number4_eq (n:Int):Ev (fun k=>aM_.f k n 4) (byt4 n):=by
 unfold aM_.f
 refine Ev.pos (by omega) (Ev.pos (by decide) ?_)
 rw[w64 (by omega) (by omega)]
 show Ev (fun k=>aM_.l0 k n [0,0,0,0] 3) _
 apply Ev.succ
 simp only[aM_.l0]
 refine Ev.pos (by omega) (Ev.pos (by omega) (Ev.pos (by decide) ?_))
 rw[w64 (by omega) (by omega)]
 show Ev (fun k=>aM_.l0 k (n / 256) [0,0,0,n % 256] 2) _
 apply Ev.succ
 simp only[aM_.l0]
 refine Ev.pos (by omega) (Ev.pos (by omega) (Ev.pos (by simp) ?_))
 rw[w64 (by omega) (by omega)]
 show Ev (fun k=>aM_.l0 k (n / 256 / 256) [0,0,n / 256 % 256,n % 256] 1) _
 apply Ev.succ
 simp only[aM_.l0]
 refine Ev.pos (by omega) (Ev.pos (by omega) (Ev.pos (by simp) ?_))
 rw[w64 (by omega) (by omega)]
 show Ev (fun k=>aM_.l0 k (n / 256 / 256 / 256) [0,n / 256 / 256 % 256,n / 256 % 256,n % 256] 0) _
 apply Ev.succ
 simp only[aM_.l0]
 refine Ev.pos (by omega) (Ev.pos (by omega) (Ev.pos (by simp) ?_))
 rw[w64 (by omega) (by omega)]
 apply Ev.succ
 simp only[aM_.l0]
 refine Ev.neg (by omega) (Ev.const ?_)
 show some (strOfNums [n / 256 / 256 / 256 % 256,n / 256 / 256 % 256,n / 256 % 256,n % 256])=some (byt4 n)
 unfold byt4
 rw[show n / 16777216=n / 256 / 256 / 256 by omega,show n / 65536=n / 256 / 256 by omega]
theorem shr_at (x:Int) (y:Int) (n:Nat) (hn:y=(n:Int)) (h:n≤64):shr .i64 x y=x / 2 ^ n:=by
 unfold shr
 subst hn
 rw[show min ((n:Int)).toNat IntKind.i64.bits=n from by simp only[Int.toNat_natCast];exact Nat.min_eq_left h]
theorem big1_eq (n:Int):Ev (fun k=>a8_.f k n 1) (byt1 n):=by
 unfold a8_.f
 rw[w64 (by omega) (by omega)]
 show Ev (fun k=>a8_.l0 k n [] 0) _
 apply Ev.succ
 simp only[a8_.l0]
 rw[w64 (by omega) (by omega),w64 (by omega) (by omega),shr_at n (8 * 0) 0 rfl (by omega)]
 refine Ev.pos (by omega) (Ev.pos (by omega) (Ev.pos (by decide) ?_))
 apply Ev.succ
 simp only[a8_.l0]
 refine Ev.neg (by omega) (Ev.const ?_)
 simp[byt1]
theorem big2_eq (n:Int):Ev (fun k=>a8_.f k n 2) (byt2 n):=by
 unfold a8_.f
 rw[w64 (by omega) (by omega)]
 show Ev (fun k=>a8_.l0 k n [] 1) _
 apply Ev.succ
 simp only[a8_.l0]
 rw[w64 (by omega) (by omega),w64 (by omega) (by omega),shr_at n (8 * 1) 8 rfl (by omega)]
 refine Ev.pos (by omega) (Ev.pos (by omega) (Ev.pos (by decide) ?_))
 show Ev (fun k=>a8_.l0 k n [n / 2 ^ 8 % 256] 0) _
 apply Ev.succ
 simp only[a8_.l0]
 rw[w64 (by omega) (by omega),w64 (by omega) (by omega),shr_at n (8 * 0) 0 rfl (by omega)]
 refine Ev.pos (by omega) (Ev.pos (by omega) (Ev.pos (by simp) ?_))
 apply Ev.succ
 simp only[a8_.l0]
 refine Ev.neg (by omega) (Ev.const ?_)
 simp[byt2]
theorem big4_eq (n:Int):Ev (fun k=>a8_.f k n 4) (byt4 n):=by
 unfold a8_.f
 rw[w64 (by omega) (by omega)]
 show Ev (fun k=>a8_.l0 k n [] 3) _
 apply Ev.succ
 simp only[a8_.l0]
 rw[w64 (by omega) (by omega),w64 (by omega) (by omega),shr_at n (8 * 3) 24 rfl (by omega)]
 refine Ev.pos (by omega) (Ev.pos (by omega) (Ev.pos (by decide) ?_))
 show Ev (fun k=>a8_.l0 k n [n / 2 ^ 24 % 256] 2) _
 apply Ev.succ
 simp only[a8_.l0]
 rw[w64 (by omega) (by omega),w64 (by omega) (by omega),shr_at n (8 * 2) 16 rfl (by omega)]
 refine Ev.pos (by omega) (Ev.pos (by omega) (Ev.pos (by simp) ?_))
 show Ev (fun k=>a8_.l0 k n [n / 2 ^ 24 % 256,n / 2 ^ 16 % 256] 1) _
 apply Ev.succ
 simp only[a8_.l0]
 rw[w64 (by omega) (by omega),w64 (by omega) (by omega),shr_at n (8 * 1) 8 rfl (by omega)]
 refine Ev.pos (by omega) (Ev.pos (by omega) (Ev.pos (by simp) ?_))
 show Ev (fun k=>a8_.l0 k n [n / 2 ^ 24 % 256,n / 2 ^ 16 % 256,n / 2 ^ 8 % 256] 0) _
 apply Ev.succ
 simp only[a8_.l0]
 rw[w64 (by omega) (by omega),w64 (by omega) (by omega),shr_at n (8 * 0) 0 rfl (by omega)]
 refine Ev.pos (by omega) (Ev.pos (by omega) (Ev.pos (by simp) ?_))
 apply Ev.succ
 simp only[a8_.l0]
 refine Ev.neg (by omega) (Ev.const ?_)
 simp[byt4]
theorem av_.idx (l0:List Int) (q:Int→Bool) (hl:l0.length≤1048576) (h:∀x∈l0,Ev (fun k=>cl_.f x) (q x)):Ev (fun k=>av_.f k l0 ) (idxP q l0):=by
 unfold av_.f
 refine Ev.eq_ (bD_ l0 (fun k (_:Nat) i=>av_.l0 k l0 (l0.length:Int) i) (fun n t=>if 0≤idxP q t then(n:Int)+idxP q t else -1) (fun p n=>n=p.length) ?_ ?_ 0 rfl) ?_
 ·intro n hn
  apply Ev.succ
  simp only[av_.l0]
  exact Ev.neg (by omega) (Ev.const (by simp[idxP]))
 ·intro p x t n e hn ih
  have hm:=bs_ e
  have hx:=h x (cn_ e)
  apply Ev.succ
  simp only[av_.l0,rd_mid' e]
  refine Ev.pos hm.1 (Ev.pos (by omega) (Ev.pos hm.1 (Ev.bind' _ hx ?_)))
  have hq:idxP q (x::t)=(if q x then 0 else if 0≤idxP q t then idxP q t+1 else -1):=rfl
  rw[hq]
  cases q x with
  | true=>exact Ev.a3_ (Ev.const (by simp[hn]))
  | false =>
   refine Ev.a1_ ?_
   rw[w64 (by omega) (by omega)]
   refine Ev.eq_ (ih (n+1) (by simp[hn])) ?_
   by_cases h2:0≤idxP q t
   ·simp[h2];omega
   ·simp[h2]
 ·by_cases h2:0≤idxP q l0
  ·simp[h2]
  ·rw[if_neg h2]
   exact(idxP_neg q l0 h2).symm
theorem aT_.any (l0:List Int) (q:Int→Bool) (hl:l0.length≤1048576) (h:∀x∈l0,Ev (fun k=>cl_.f x) (q x)):Ev (fun k=>aT_.f k l0 ) (l0.any q):=by
 unfold aT_.f
 refine Ev.bind' _ (av_.idx l0  q hl h) (Ev.const ?_)
 rw[idxP_nonneg]
def targetOk (s:ByteArray):Bool := !decide (bts s=[])&&nameOk s&&(labels s).all (fun x => !decide (bts x=[42]))
theorem splitC_mem (c:UInt8):∀(l cur:List UInt8) (b:UInt8),b∈cur∨b∈l→b=c∨∃x∈splitC c cur l,b∈bts x
 | [],cur,b,h=>by
  rcases h with h|h
  ·exact Or.inr ⟨⟨cur.toArray⟩,by simp[splitC],by rw[bts_mk];exact h⟩
  ·cases h
 | a::l,cur,b,h=>by
  unfold splitC
  by_cases ha:a=c
  ·rw[if_pos ha]
   rcases h with h|h
   ·exact Or.inr ⟨_,List.mem_cons_self,by rw[bts_mk];exact h⟩
   ·rcases List.mem_cons.mp h with h|h
    ·exact Or.inl (h.trans ha)
    ·rcases splitC_mem c l [] b (Or.inr h) with h2|⟨x,hx,h2⟩
     ·exact Or.inl h2
     ·exact Or.inr ⟨x,List.mem_cons_of_mem _ hx,h2⟩
  ·rw[if_neg ha]
   refine splitC_mem c l (cur++[a]) b ?_
   rcases h with h|h
   ·exact Or.inl (by simp[h])
   ·rcases List.mem_cons.mp h with h|h
    ·exact Or.inl (by simp[h])
    ·exact Or.inr h
theorem splitC_sub (c:UInt8):∀(l cur:List UInt8) (x:ByteArray) (b:UInt8),x∈splitC c cur l→b∈bts x→b∈cur∨b∈l
 | [],cur,x,b,hx,hb=>by
  simp only[splitC,List.mem_singleton] at hx
  subst hx
  rw[bts_mk] at hb
  exact Or.inl hb
 | a::l,cur,x,b,hx,hb=>by
  unfold splitC at hx
  by_cases ha:a=c
  ·rw[if_pos ha] at hx
   rcases List.mem_cons.mp hx with rfl|h
   ·rw[bts_mk] at hb;exact Or.inl hb
   ·rcases splitC_sub c l [] x b h hb with h2|h2
    ·cases h2
    ·exact Or.inr (List.mem_cons_of_mem _ h2)
  ·rw[if_neg ha] at hx
   rcases splitC_sub c l (cur++[a]) x b hx hb with h2|h2
   ·rcases List.mem_append.mp h2 with h3|h3
    ·exact Or.inl h3
    ·simp only[List.mem_singleton] at h3
     exact Or.inr (by rw[h3];exact List.mem_cons_self)
   ·exact Or.inr (List.mem_cons_of_mem _ h2)
theorem labelOk_in {x:ByteArray} (h:labelOk x=true) {b:UInt8} (hb:b∈bts x):bts x=[42]∨okB b=true:=by
 unfold labelOk at h
 simp only[Bool.or_eq_true,decide_eq_true_eq,Bool.and_eq_true,List.all_eq_true] at h
 rcases h with h|h
 ·exact Or.inl h
 ·exact Or.inr (h.1 b hb)
theorem star_label {s:ByteArray} (h:nameOk s=true):(42:UInt8)∈bts s↔∃x∈labels s,bts x=[42]:=by
 have hl:(labels s).all labelOk=true:=by
  unfold nameOk at h
  simp only[Bool.and_eq_true] at h
  exact h.2
 rw[List.all_eq_true] at hl
 unfold labels at hl ⊢
 by_cases he:bts s=[]
 ·rw[if_pos he];simp[he]
 ·rw[if_neg he] at hl ⊢
  constructor
  ·intro hm
   rcases splitC_mem 46 (bts s) [] 42 (Or.inr hm) with h2|⟨x,hx,hb⟩
   ·cases h2
   ·refine⟨x,hx,?_⟩
    rcases labelOk_in (hl x hx) hb with h3|h3
    ·exact h3
    ·exact absurd h3 (by decide)
  ·rintro⟨x,hx,hb⟩
   rcases splitC_sub 46 (bts s) [] x 42 hx (by rw[hb];simp) with h2|h2
   ·cases h2
   ·exact h2
theorem index_ge (l:List UInt8) (c:UInt8):decide (Go.Lib.indexByte l c≥0)=decide (c∈l):=by
 by_cases h:0<Go.Lib.countByte l c
 ·obtain⟨pre,post,e,_,hi,_⟩:=index_some l c h
  rw[hi]
  have:c∈l:=by rw[e];simp
  simp[this]
 ·obtain⟨h1,h2⟩:=index_none l c (by omega)
  rw[h2]
  simp[h1]
theorem hasByte_eq (s:ByteArray) (c:UInt8):cz_.f s (⟨#[c]⟩:ByteArray)=some (decide (c∈bts s)):=by
 unfold cz_.f cb_.f
 rw[if_pos (by rfl)]
 simp only[Option.bind_some]
 show some (decide (Go.Lib.indexByte (bts s) c≥0))=_
 rw[index_ge]
theorem bne_dec (a b:List UInt8):(a != b) = !decide (a=b):=by
 by_cases h:a=b
 ·simp[h]
 ·rw[bne_iff_ne.mpr h];simp[h]
theorem isTarget_eq (s:ByteArray) (hs:s.size≤1048576):Ev (fun k=>cy_.f k s) (targetOk s):=by
 unfold cy_.f targetOk
 rw[b4_]
 by_cases h:bts s=[]
 ·exact Ev.pos h (Ev.const (by simp[h]))
 ·refine Ev.neg h (Ev.bind' _ (implGoodName_eq s hs) ?_)
  cases hn:nameOk s with
  | false=>exact Ev.a1_ (Ev.const (by simp))
  | true =>
   refine Ev.a3_ (Ev.cbind _ (hasByte_eq s 42) (Ev.const ?_))
   have hst:=star_label hn
   rw[Option.some.injEq,Bool.eq_iff_iff]
   simp only[h,decide_false,Bool.not_false,Bool.true_and,Bool.and_true,Bool.not_eq_true',decide_eq_false_iff_not,List.all_eq_true,Bool.not_eq_true',hst]
   constructor
   ·intro h2 x hx h3
    exact h2 ⟨x,hx,h3⟩
   ·rintro h2 ⟨x,hx,h3⟩
    exact h2 x hx h3
theorem specTarget_eq (s:ByteArray) (hs:s.size≤1048576):Ev (fun k=>bn_.f k s) (targetOk s):=by
 unfold bn_.f
 refine Ev.bind' _ (specLabels_eq s hs) ?_
 have hll:=labels_len s
 have main:∀(L:List ByteArray),L.length≤1048577→∀ok:Bool,Ev (fun k=>bn_.l0 k s ok L (L.length:Int) 0) (ok&&L.all (fun x => !decide (bts x=[42])) && !decide (bts s=[])):=by
  intro L hL ok
  refine bD_ L (fun k (o:Bool) i=>bn_.l0 k s o L (L.length:Int) i) (fun o t=>o&&t.all (fun x => !decide (bts x=[42])) && !decide (bts s=[])) (fun _ _=>True) ?_ ?_ ok trivial
  ·intro o _
   apply Ev.succ
   simp only[bn_.l0]
   refine Ev.neg (by omega) ?_
   cases o with
   | false=>exact Ev.a1_ (Ev.const (by simp))
   | true=>exact Ev.a3_ (Ev.const (by rw[b4_];by_cases h:bts s=[]<;>simp[h]))
  ·intro p x t o e _ ih
   have hm:=bs_ e
   apply Ev.succ
   simp only[bn_.l0,rdOf_mid e]
   refine Ev.pos hm.1 (Ev.pos (by omega) (Ev.pos hm.1 ?_))
   rw[w64 (i:=(p.length:Int)+1) (by omega) (by omega),b4_]
   cases o with
   | false=>exact Ev.a1_ (Ev.eq_ (ih false trivial) (by simp))
   | true =>
    refine Ev.a3_ (Ev.eq_ (ih _ trivial) ?_)
    rw[bne_dec]
    simp
 unfold targetOk nameOk
 by_cases h:(labels s).all labelOk=true
 ·rw[if_pos h]
  refine Ev.eq_ (main (labels s) (by omega) _) ?_
  simp only[h]
  cases decide ((bts s).length≤60)<;>cases decide ((labels s).length≤8)<;>cases decide (bts s=[])<;>simp
 ·rw[if_neg h]
  refine Ev.eq_ (main [] (by simp) false) ?_
  simp[h]
def wireB (s:ByteArray):ByteArray:=(labels s).foldl (fun a x=>a++(strOfNums [(x.size:Int) % 256]++x)) (⟨#[]⟩:ByteArray)
theorem nameOk_labels' {s:ByteArray} (h:nameOk s=true):(labels s).all labelOk=true:=by
 unfold nameOk at h
 simp only[Bool.and_eq_true] at h
 exact h.2
theorem target_name {s:ByteArray} (h:targetOk s=true):nameOk s=true:=by
 unfold targetOk at h
 simp only[Bool.and_eq_true] at h
 exact h.1.2
theorem nameOk_small {s:ByteArray} (h:nameOk s=true):s.size≤60∧(labels s).length≤8∧∀x∈labels s,x.size≤60:=by
 unfold nameOk at h
 simp only[Bool.and_eq_true,decide_eq_true_eq] at h
 have hz:=bE_ s
 refine⟨by omega,h.1.2,fun x hx=>?_⟩
 have:=labels_sizes s x hx
 omega
theorem sz_app (a b:ByteArray):(a++b).size=a.size+b.size:=ByteArray.size_append
theorem wire_step (a x:ByteArray) (n:Nat) (ha:a.size≤61 * n) (hx:x.size≤60) (hn:n≤8):(strOfNums [(x.size:Int) % 256]).size+x.size≤9223372036854775807∧a.size+(strOfNums [(x.size:Int) % 256]++x).size≤9223372036854775807∧(a++(strOfNums [(x.size:Int) % 256]++x)).size≤61 * (n+1):=by
 have h1:(strOfNums [(x.size:Int) % 256]).size=1:=strOfNums_size _
 simp only[sz_app,h1]
 omega
theorem empty_le:(⟨#[]⟩:ByteArray).size≤61 * ([]:List ByteArray).length:=by decide
theorem labelBytes_eq (s:ByteArray) (h:nameOk s=true):Ev (fun k=>bm_.f k s) (wireB s)∧(wireB s).size≤488:=by
 obtain⟨h1,h2,h3⟩:=nameOk_small h
 have hw:∀(t p:List ByteArray) (a:ByteArray),labels s=p++t→a.size≤61 * p.length→(t.foldl (fun a x=>a++(strOfNums [(x.size:Int) % 256]++x)) a).size≤61 * 8:=by
  intro t
  induction t with
  | nil =>
   intro p a e ha
   simp only[List.foldl_nil]
   have:p.length≤8:=by rw[e] at h2;simpa using h2
   omega
  | cons x t ih =>
   intro p a e ha
   rw[List.foldl_cons]
   have hp:(labels s).length=p.length+(t.length+1):=by rw[e];simp
   have:=wire_step a x p.length ha (h3 x (by rw[e];simp)) (by omega)
   exact ih (p++[x]) (a++(strOfNums [(x.size:Int) % 256]++x)) (by rw[e];simp) (by rw[show(p++[x]).length=p.length+1 from by simp];exact this.2.2)
 have h8:=hw (labels s) [] (⟨#[]⟩:ByteArray) (List.nil_append _).symm empty_le
 refine⟨?_,by unfold wireB;exact h8⟩
 unfold bm_.f wireB
 refine Ev.bind' _ (labelsOf_eq s (by omega)) ?_
 refine Ev.eq_ (bD_ (labels s) (fun k (a:ByteArray) i=>bm_.l0 k a (labels s) ((labels s).length:Int) i) (fun a t=>t.foldl (fun a x=>a++(strOfNums [(x.size:Int) % 256]++x)) a) (fun p a=>a.size≤61 * p.length) ?_ ?_ (⟨#[]⟩:ByteArray) empty_le) rfl
 ·intro a _
  apply Ev.succ
  simp only[bm_.l0]
  exact Ev.neg (by omega) (Ev.const rfl)
 ·intro p x t a e ha ih
  have hm:=bs_ e
  obtain⟨g1,g2,g3⟩:=wire_step a x p.length ha (h3 x (cn_ e)) (by omega)
  apply Ev.succ
  simp only[bm_.l0,rdOf_mid e]
  refine Ev.pos hm.1 (Ev.pos (by omega) (Ev.pos hm.1 (Ev.cbind [(x.size:Int) % 256] rfl (Ev.pos g1 (Ev.pos g2 ?_)))))
  rw[w64 (i:=(p.length:Int)+1) (by omega) (by omega)]
  exact ih (a++(strOfNums [(x.size:Int) % 256]++x)) (by rw[show(p++[x]).length=p.length+1 from by simp];exact g3)
theorem l2Bytes_eq (s:ByteArray) (h:nameOk s=true):Ev (fun k=>bF_.f k s) (wireB s++(⟨#[0]⟩:ByteArray)):=by
 obtain⟨h1,h2,h3⟩:=nameOk_small h
 unfold bF_.f wireB
 have hl:(labels s).all labelOk=true:=(nameOk_labels' h)
 have hsl:=specLabels_eq s (by omega)
 rw[if_pos hl] at hsl
 refine Ev.bind' _ hsl ?_
 refine Ev.eq_ (bD_ (labels s) (fun k (a:ByteArray) i=>bF_.l0 k a (labels s) ((labels s).length:Int) i) (fun a t=>t.foldl (fun a x=>a++(strOfNums [(x.size:Int) % 256]++x)) a++(⟨#[0]⟩:ByteArray)) (fun p a=>a.size≤61 * p.length) ?_ ?_ (⟨#[]⟩:ByteArray) empty_le) rfl
 ·intro a ha
  apply Ev.succ
  simp only[bF_.l0]
  exact Ev.neg (by omega) (Ev.pos (by omega) (Ev.const rfl))
 ·intro p x t a e ha ih
  have hm:=bs_ e
  obtain⟨g1,g2,g3⟩:=wire_step a x p.length ha (h3 x (cn_ e)) (by omega)
  apply Ev.succ
  simp only[bF_.l0,rdOf_mid e]
  refine Ev.pos hm.1 (Ev.pos (by omega) (Ev.pos hm.1 (Ev.cbind [(x.size:Int) % 256] rfl (Ev.pos g1 (Ev.pos g2 ?_)))))
  rw[w64 (i:=(p.length:Int)+1) (by omega) (by omega)]
  exact ih (a++(strOfNums [(x.size:Int) % 256]++x)) (by rw[show(p++[x]).length=p.length+1 from by simp];exact g3)
def cutB (c:UInt8):List UInt8→Option (List UInt8 × List UInt8)
 | []=>none
 | b::t=>if b=c then some ([],t) else(cutB c t).map (fun p=>(b::p.1,p.2))
theorem cutB_none {c:UInt8}:∀{l:List UInt8},cutB c l=none→c∉l
 | [],_=>by simp
 | b::t,h=>by
  unfold cutB at h
  by_cases hb:b=c
  ·rw[if_pos hb] at h;cases h
  ·rw[if_neg hb] at h
   simp only[Option.map_eq_none_iff] at h
   have:=cutB_none h
   intro hm
   rcases List.mem_cons.mp hm with e|e
   ·exact hb e.symm
   ·exact this e
theorem cutB_some {c:UInt8}:∀{l p q:List UInt8},cutB c l=some (p,q)→l=p++c::q∧c∉p
 | [],p,q,h=>by cases h
 | b::t,p,q,h=>by
  unfold cutB at h
  by_cases hb:b=c
  ·rw[if_pos hb] at h
   simp only[Option.some.injEq,Prod.mk.injEq] at h
   obtain⟨rfl,rfl⟩:=h
   exact⟨by rw[hb];rfl,by simp⟩
  ·rw[if_neg hb] at h
   simp only[Option.map_eq_some_iff,Prod.mk.injEq,Prod.exists] at h
   obtain⟨p',q',h1,rfl,rfl⟩:=h
   obtain⟨h2,h3⟩:=cutB_some h1
   refine⟨by rw[h2];rfl,?_⟩
   intro hm
   rcases List.mem_cons.mp hm with e|e
   ·exact hb e.symm
   ·exact h3 e
theorem splitC_ne (c:UInt8):∀(l cur:List UInt8),splitC c cur l≠[]
 | [],cur=>by simp[splitC]
 | b::l,cur=>by
  unfold splitC
  split
  ·simp
  ·exact splitC_ne c l _
theorem splitC_two (c:UInt8):∀(l cur:List UInt8),c∈l→2≤(splitC c cur l).length
 | [],cur,h=>by cases h
 | b::l,cur,h=>by
  unfold splitC
  by_cases hb:b=c
  ·rw[if_pos hb]
   have:=List.length_pos_iff.mpr (splitC_ne c l [])
   simp only[List.length_cons]
   omega
  ·rw[if_neg hb]
   rcases List.mem_cons.mp h with e|e
   ·exact absurd e.symm hb
   ·exact splitC_two c l _ e
theorem specSplitC_eq (c:UInt8) (s:ByteArray) (hs:s.size≤1048576):Ev (fun k=>a9_.f k s (c.toNat:Int)) (splitC c [] (bts s)):=by
 unfold a9_.f
 have hz:=bE_ s
 refine Ev.eq_ (bD_ (bts s) (fun k (st:List ByteArray × Nat × List UInt8) i=>a9_.l0 k s (c.toNat:Int) st.1 st.2.1 i) (fun st t=>st.1++splitC c st.2.2 t) (fun p st=>st.2.1≤p.length∧st.2.2=p.drop st.2.1∧st.1.length≤p.length) ?_ ?_ ([],0,[]) ⟨Nat.zero_le _,rfl,Nat.zero_le _⟩) (by simp)
 ·rintro⟨acc,fr,cur⟩ ⟨h1,h2,h3⟩
  apply Ev.succ
  simp only[a9_.l0]
  simp only at h1 h2 h3
  refine Ev.neg (by omega) (Ev.pos (by omega) (Ev.pos (by omega) (Ev.pos (by omega) (Ev.const ?_))))
  simp only[splitC]
  rw[extract_bts,h2]
  congr 4
  rw[List.take_of_length_le]
  ·simp
  ·simp[hz]
 ·rintro p b t ⟨acc,fr,cur⟩ e ⟨h1,h2,h3⟩ ih
  have hm:=bs_ e
  simp only at h1 h2 h3
  apply Ev.succ
  simp only[a9_.l0]
  refine Ev.pos (by omega) (Ev.pos (by omega) ?_)
  rw[bt_mid e,w64 (i:=(p.length:Int)+1) (by omega) (by omega)]
  by_cases hb:b=c
  ·subst hb
   refine Ev.pos (by rfl) (Ev.pos (by omega) (Ev.pos (by omega) (Ev.pos (by omega) (Ev.pos (by omega) ?_))))
   have hx:s.extract ((fr:Nat):Int).toNat ((p.length:Nat):Int).toNat=⟨cur.toArray⟩:=by
    rw[extract_bts,h2]
    congr 2
    rw[e]
    simp only[Int.toNat_natCast]
    rw[List.drop_append_of_le_length h1,List.take_append_of_le_length (by simp),List.take_of_length_le (by simp)]
   rw[hx]
   have hc:((p.length:Int)+1)=(((p.length+1:Nat)):Int):=by omega
   refine Ev.eq_ (ih (acc++[⟨cur.toArray⟩],p.length+1,[]) ⟨by simp,by simp,by simp;omega⟩) ?_
   simp[splitC]
  ·have:¬((b.toNat:Int)=(c.toNat:Int)):=by
    intro h
    apply hb
    apply UInt8.toNat_inj.mp
    omega
   refine Ev.neg this ?_
   refine Ev.eq_ (ih (acc,fr,cur++[b]) ⟨by simp;omega,?_,by simp;omega⟩) ?_
   ·simp only
    rw[h2,List.drop_append_of_le_length h1]
   ·simp[splitC,hb]
def partsA (s:ByteArray):List ByteArray:=splitC 46 [] (bts s)
def aOk (s:ByteArray):Bool:=(partsA s).all (fun x=>numOk (bts x) 255)&&decide ((partsA s).length=4)
def aB (s:ByteArray):ByteArray:=(partsA s).foldl (fun a x=>a++byt1 (numOf (bts x))) (⟨#[]⟩:ByteArray)
def mxOk (s:ByteArray):Bool:=match cutB 32 (bts s) with
 | some (p,q)=>numOk p 65535&&targetOk ⟨q.toArray⟩
 | none=>false
def mxB (s:ByteArray):ByteArray:=match cutB 32 (bts s) with
 | some (p,q)=>byt2 (numOf p)++(wireB ⟨q.toArray⟩++(⟨#[0]⟩:ByteArray))
 | none=>(⟨#[]⟩:ByteArray)
def txtC (b:UInt8):Bool:=decide (32≤b.toNat)&&decide (b.toNat≤126)
def txtOk (s:ByteArray):Bool:=(bts s).all txtC&&decide ((bts s).length≤30)
def dataOk (kind:Int) (s:ByteArray):Bool :=
 if kind=1 then aOk s else if kind=2∨kind=5 then targetOk s else if kind=6 then numOk (bts s) 4294967295 else if kind=15 then mxOk s else if kind=16 then txtOk s else false
def dataB (kind:Int) (s:ByteArray):ByteArray :=
 if kind=1 then aB s else if kind=2∨kind=5 then wireB s++(⟨#[0]⟩:ByteArray) else if kind=6 then byt4 (numOf (bts s)) else if kind=15 then mxB s else if kind=16 then byt1 (s.size:Int)++s else(⟨#[]⟩:ByteArray)
theorem byt1_size (n:Int):(byt1 n).size=1:=strOfNums_size _
theorem byt2_size (n:Int):(byt2 n).size=2:=strOfNums_size _
theorem parts_len (s:ByteArray):(partsA s).length≤s.size+1:=by
 have hz:=bE_ s
 have:=splitC_len 46 (bts s) []
 unfold partsA
 omega
theorem parts_size {s x:ByteArray} (h:x∈partsA s):x.size≤s.size:=by
 have hz:=bE_ s
 have:=splitC_sizes 46 (bts s) [] x h
 simp at this
 omega
theorem in255 (l:List UInt8) (m:Int):inR (numOf l) 0 m=numOk l m:=by
 unfold inR numOk
 by_cases h1:0≤numOf l<;>by_cases h2:numOf l≤m<;>simp[h1,h2]
theorem specA_eq (s:ByteArray) (hs:s.size≤1048576):∃B,Ev (fun k=>ak_.f k 1 s) (B,aOk s)∧(aOk s=true→B=aB s):=by
 have hl:=parts_len s
 have main:Ev (fun k=>ak_.f k 1 s) (if (partsA s).all (fun x=>numOk (bts x) 255)=true then(aB s,(((partsA s).length:Int)==4)) else((⟨#[]⟩:ByteArray),false)):=by
  unfold ak_.f
  refine Ev.pos rfl (Ev.bind' (partsA s) (specSplitC_eq 46 s hs) ?_)
  unfold aB
  refine Ev.eq_ (bD_ (partsA s) (fun k (a:ByteArray) i=>ak_.l0 k a (partsA s) (partsA s) ((partsA s).length:Int) i) (fun a t=>if t.all (fun x=>numOk (bts x) 255)=true then(t.foldl (fun a x=>a++byt1 (numOf (bts x))) a,(((partsA s).length:Int)==4)) else((⟨#[]⟩:ByteArray),false)) (fun p a=>a.size≤p.length) ?_ ?_ (⟨#[]⟩:ByteArray) (Nat.le_refl 0)) rfl
  ·intro a ha
   apply Ev.succ
   simp only[ak_.l0]
   exact Ev.neg (by omega) (Ev.const (by simp))
  ·intro p x t a e ha ih
   have hm:=bs_ e
   have hx:=parts_size (cn_ e)
   apply Ev.succ
   simp only[ak_.l0,rdOf_mid e]
   refine Ev.pos hm.1 (Ev.pos (by omega) (Ev.pos hm.1 (Ev.bind' (numOf (bts x)) (l1Int_eq x (by omega)) (Ev.cbind _ (l1In_eq _ _ _) ?_))))
   rw[in255]
   cases hn:numOk (bts x) 255 with
   | false=>exact Ev.a1_ (Ev.const (by simp[hn]))
   | true =>
    have h1:=byt1_size (numOf (bts x))
    refine Ev.a3_ (Ev.bind' (byt1 (numOf (bts x))) (number1_eq _) (Ev.pos (by omega) ?_))
    rw[w64 (i:=(p.length:Int)+1) (by omega) (by omega)]
    refine Ev.eq_ (ih (a++byt1 (numOf (bts x))) (by rw[sz_app,h1];simp;omega)) ?_
    simp[hn]
 refine⟨if (partsA s).all (fun x=>numOk (bts x) 255)=true then aB s else(⟨#[]⟩:ByteArray),Ev.eq_ main ?_,?_⟩
 ·unfold aOk
  by_cases h:(partsA s).all (fun x=>numOk (bts x) 255)=true
  ·rw[if_pos h,if_pos h,h]
   by_cases h4:(partsA s).length=4
   ·simp[h4]
   ·have:¬(((partsA s).length:Int)=4):=by omega
    simp[h4,this]
  ·rw[if_neg h,if_neg h]
   simp[h]
 ·intro h
  unfold aOk at h
  simp only[Bool.and_eq_true] at h
  rw[if_pos h.1]
theorem implA_eq (s:ByteArray) (hs:s.size≤1048576):Ev (fun k=>aA_.f k 1 s) (if aOk s=true then(aB s,true) else((⟨#[]⟩:ByteArray),false)):=by
 have hl:=parts_len s
 unfold aA_.f
 have hsp:Ev (fun k=>ca_.f k s (⟨#[46]⟩:ByteArray)) (partsA s):=strSplit_eq s hs
 refine Ev.pos rfl (Ev.bind' (partsA s) hsp ?_)
 unfold aB
 have hne:partsA s≠[]:=splitC_ne 46 (bts s) []
 by_cases h4:(partsA s).length=4
 ·refine Ev.eq_ (bD_ (partsA s) (fun k (a:ByteArray) i=>aA_.l0 k a (partsA s) (partsA s) ((partsA s).length:Int) i) (fun a t=>if t.all (fun x=>numOk (bts x) 255)=true then(t.foldl (fun a x=>a++byt1 (numOf (bts x))) a,true) else((⟨#[]⟩:ByteArray),false)) (fun p a=>a.size≤p.length) ?_ ?_ (⟨#[]⟩:ByteArray) (Nat.le_refl 0)) ?_
  ·intro a ha
   apply Ev.succ
   simp only[aA_.l0]
   exact Ev.neg (by omega) (Ev.const (by simp))
  ·intro p x t a e ha ih
   have hm:=bs_ e
   have hx:=parts_size (cn_ e)
   obtain⟨v,hv,hv2⟩:=numberIn_eq x (by omega) 255 (by omega)
   apply Ev.succ
   simp only[aA_.l0,rdOf_mid e]
   refine Ev.pos hm.1 (Ev.pos (by omega) (Ev.pos hm.1 (Ev.cbind _ hv ?_)))
   cases hn:numOk (bts x) 255 with
   | false=>exact Ev.a1_ (Ev.const (by simp[hn]))
   | true =>
    have hvn:=hv2 hn
    subst hvn
    have h1:=byt1_size (numOf (bts x))
    refine Ev.a3_ (Ev.pos (by omega) (Ev.bind' (byt1 (numOf (bts x))) (big1_eq _) (Ev.pos (by omega) ?_)))
    rw[w64 (i:=(p.length:Int)+1) (by omega) (by omega)]
    refine Ev.eq_ (ih (a++byt1 (numOf (bts x))) (by rw[sz_app,h1];simp;omega)) ?_
    simp[hn]
  ·unfold aOk
   simp[h4]
 ·obtain⟨x,t,e⟩:∃x t,partsA s=x::t:=by
   cases h:partsA s with
   | nil=>exact absurd h hne
   | cons x t=>exact⟨x,t,rfl⟩
  have hx:=parts_size (s:=s) (x:=x) (by rw[e];simp)
  obtain⟨v,hv,hv2⟩:=numberIn_eq x (by omega) 255 (by omega)
  have hno:aOk s=false:=by unfold aOk;simp[h4]
  have hr:rdOf ByteArray.empty (partsA s) 0=x:=rdOf_mid (p:=[]) e
  have hp:0<(partsA s).length:=List.length_pos_iff.mpr hne
  apply Ev.succ
  simp only[aA_.l0,hr,hno]
  refine Ev.pos (by omega) (Ev.pos (by omega) (Ev.pos (by omega) (Ev.cbind _ hv ?_)))
  cases hn:numOk (bts x) 255 with
  | false=>exact Ev.a1_ (Ev.const rfl)
  | true=>exact Ev.a3_ (Ev.neg (by omega) (Ev.const rfl))
theorem strCut32 (s:ByteArray) (hs:s.size≤1048576):strings_Cut.f s (⟨#[32]⟩:ByteArray)=some (match cutB 32 (bts s) with
  | some (p,q)=>(⟨p.toArray⟩,⟨q.toArray⟩,true)
  | none=>(s,⟨#[]⟩,false)):=by
 have hz:=bE_ s
 unfold strings_Cut.f stringslite_Cut.f bK_.f
 rw[if_pos (by rfl),show Go.Lib.indexByte s.data.toList ((⟨#[32]⟩:ByteArray).data.toList.headD 0)=Go.Lib.indexByte (bts s) 32 from rfl]
 simp only[Option.bind_some]
 cases hc:cutB 32 (bts s) with
 | none =>
  have hn:=cutB_none hc
  have hcnt:¬0<Go.Lib.countByte (bts s) 32:=by
   intro h
   obtain⟨pre,post,e,_⟩:=index_some (bts s) 32 h
   exact hn (by rw[e];simp)
  obtain⟨_,hi⟩:=index_none (bts s) 32 (by omega)
  rw[hi,if_neg (by omega)]
  rfl
 | some pq =>
  obtain⟨p,q⟩:=pq
  obtain⟨e,hp⟩:=cutB_some hc
  have hcnt:0<Go.Lib.countByte (bts s) 32:=by
   rcases Nat.eq_zero_or_pos (Go.Lib.countByte (bts s) 32) with h|h
   ·exact absurd (by rw[e];simp:(32:UInt8)∈bts s) (index_none (bts s) 32 h).1
   ·exact h
  obtain⟨pre,post,e2,hp2,hi,_⟩:=index_some (bts s) 32 hcnt
  have hpre:pre=p∧post=q:=by
   have:=e2.symm.trans e
   have h1:=splitC_pre 32 post pre [] hp2
   have h2:=splitC_pre 32 q p [] hp
   clear hi e e2 hcnt hc hz
   induction pre generalizing p with
   | nil =>
    cases p with
    | nil=>simp at this;exact⟨rfl,this⟩
    | cons a p=>simp at this;exact absurd this.1 (fun h=>hp (by simp[h]))
   | cons a pre ih =>
    cases p with
    | nil=>simp at this;exact absurd this.1 (fun h=>hp2 (by simp[h]))
    | cons b p =>
     simp only[List.cons_append,List.cons.injEq] at this
     obtain⟨rfl,this⟩:=this
     have:=ih p (fun h=>hp (List.mem_cons_of_mem _ h)) (fun h=>hp2 (List.mem_cons_of_mem _ h)) this (splitC_pre 32 post pre [] (fun h=>hp2 (List.mem_cons_of_mem _ h))) (splitC_pre 32 q p [] (fun h=>hp (List.mem_cons_of_mem _ h)))
     exact⟨by rw[this.1],this.2⟩
  obtain⟨rfl,rfl⟩:=hpre
  have hlen:(bts s).length=pre.length+(post.length+1):=by rw[e];simp
  have h1:((⟨#[32]⟩:ByteArray).size:Int)=1:=rfl
  rw[hi,h1,w64 (i:=(pre.length:Int)+1) (by omega) (by omega),if_pos (by omega),if_pos (by omega),if_pos (by omega),if_pos (by omega),if_pos (by omega)]
  simp only[Option.bind_some]
  have x1:s.extract 0 ((pre.length:Int)).toNat=⟨pre.toArray⟩:=by
   rw[extract_bts]
   congr 2
   rw[e]
   simp
  have x2:s.extract (((pre.length:Int)+1)).toNat s.size=⟨post.toArray⟩:=by
   rw[extract_bts]
   congr 2
   have e':bts s=(pre++[32])++post:=by simpa using e
   have h1:(((pre.length:Int)+1)).toNat=(pre++[32]).length:=by simp<;>omega
   rw[e',h1,List.drop_left,List.take_of_length_le]
   simp at hlen ⊢
   omega
  rw[x1,x2]
def ltS (a b:ByteArray):Bool:=Op.bytesLess (bts a) (bts b)
def cmpR:List ByteArray→List ByteArray→Int
 | [],[]=>0
 | [],_::_ => -1
 | _::_,[]=>1
 | a::s,b::t=>if ltS a b=true then -1 else if bts a=bts b then cmpR s t else 1
def cmpN (a b:ByteArray):Int:=cmpR (labels a).reverse (labels b).reverse
theorem rev_at {α:Type} {l p t:List α} {x d:α} (e:l.reverse=p++x::t):rdOf d l ((l.length:Int) - ((p.length:Int)+1))=x:=by
 have hl:l=t.reverse++x::p.reverse:=by
  have:=congrArg List.reverse e
  rw[List.reverse_reverse] at this
  rw[this]
  simp
 have hn:((l.length:Int) - ((p.length:Int)+1))=((t.reverse.length:Nat):Int):=by
  rw[hl]
  simp<;>omega
 rw[hn]
 exact rdOf_mid hl
theorem specCompare_loop (x y:List ByteArray) (hx:x.length≤1048577) (hy:y.length≤1048577):∀(s t p q:List ByteArray),x.reverse=p++s→y.reverse=q++t→p.length=q.length→Ev (fun k=>aL_.l0 k x y ((p.length:Int)+1)) (cmpR s t)
 | [],t,p,q,e1,e2,hp=>by
  have l1:x.length=p.length:=by have:=congrArg List.length e1;simpa using this
  have l2:y.length=q.length+t.length:=by have:=congrArg List.length e2;simpa using this
  apply Ev.succ
  simp only[aL_.l0]
  refine Ev.neg (by omega) (Ev.succ ?_)
  simp only[aL_.j1]
  cases t with
  | nil =>
   simp only[List.length_nil] at l2
   first
    | exact Ev.neg (by simp) (Ev.neg (by omega) (Ev.neg (by omega) (Ev.const rfl)))
    | exact Ev.neg (by omega) (Ev.neg (by omega) (Ev.const rfl))
  | cons b t =>
   simp only[List.length_cons] at l2
   first
    | exact Ev.neg (by simp) (Ev.pos (by omega) (Ev.const rfl))
    | exact Ev.pos (by omega) (Ev.const rfl)
 | a::s,[],p,q,e1,e2,hp=>by
  have l1:x.length=p.length+(s.length+1):=by have:=congrArg List.length e1;simpa using this
  have l2:y.length=q.length:=by have:=congrArg List.length e2;simpa using this
  apply Ev.succ
  simp only[aL_.l0]
  refine Ev.pos (by omega) (Ev.succ ?_)
  simp only[aL_.j1]
  refine Ev.neg (by simp;omega) (Ev.neg (by omega) (Ev.pos (by omega) (Ev.const rfl)))
 | a::s,b::t,p,q,e1,e2,hp=>by
  have l1:x.length=p.length+(s.length+1):=by have:=congrArg List.length e1;simpa using this
  have l2:y.length=q.length+(t.length+1):=by have:=congrArg List.length e2;simpa using this
  have ra:rdOf ByteArray.empty x ((x.length:Int) - ((p.length:Int)+1))=a:=rev_at e1
  have rb:rdOf ByteArray.empty y ((y.length:Int) - ((p.length:Int)+1))=b:=by rw[hp];exact rev_at e2
  have ih:=specCompare_loop x y hx hy s t (p++[a]) (q++[b]) (by rw[e1];simp) (by rw[e2];simp) (by simp[hp])
  have ec:(((p++[a]).length:Nat):Int)+1=(p.length:Int)+1+1:=by simp
  rw[ec] at ih
  apply Ev.succ
  simp only[aL_.l0]
  refine Ev.pos (by omega) (Ev.succ ?_)
  simp only[aL_.j1]
  rw[w64 (i:=(x.length:Int) - ((p.length:Int)+1)) (by omega) (by omega),w64 (i:=(y.length:Int) - ((p.length:Int)+1)) (by omega) (by omega),w64 (i:=(p.length:Int)+1+1) (by omega) (by omega),ra,rb,b4_,b4_]
  refine Ev.pos (by simp;omega) (Ev.pos (by omega) (Ev.pos (by omega) (Ev.pos (by omega) (Ev.pos (by omega) ?_))))
  have hc:cmpR (a::s) (b::t)=if ltS a b=true then -1 else if bts a=bts b then cmpR s t else 1:=rfl
  rw[hc]
  by_cases h1:ltS a b=true
  ·rw[if_pos h1]
   exact Ev.pos h1 (Ev.const rfl)
  ·rw[if_neg h1]
   refine Ev.neg h1 ?_
   by_cases h2:bts a=bts b
   ·rw[if_pos h2]
    exact Ev.pos h2 ih
   ·rw[if_neg h2]
    exact Ev.neg h2 (Ev.const rfl)
theorem specCompare_eq (a b:ByteArray) (ha:a.size≤1048576) (hb:b.size≤1048576) (ga:(labels a).all labelOk=true) (gb:(labels b).all labelOk=true):Ev (fun k=>aL_.f k a b) (cmpN a b):=by
 have la:=labels_len a
 have lb:=labels_len b
 unfold aL_.f
 have h1:=specLabels_eq a ha
 have h2:=specLabels_eq b hb
 rw[if_pos ga] at h1
 rw[if_pos gb] at h2
 refine Ev.bind' _ h1 (Ev.bind' _ h2 ?_)
 have:=specCompare_loop (labels a) (labels b) (by omega) (by omega) (labels a).reverse (labels b).reverse [] [] rfl rfl rfl
 unfold cmpN
 simpa using this
theorem reverse_loop:∀(n:Nat) (M A B:List ByteArray),M.length≤n→A.length=B.length→(A++M++B).length≤1048577→Ev (fun k=>an_.l0 k (A++M++B) (A.length:Int) ((A.length:Int)+M.length - 1)) (A++M.reverse++B)
 | n,[],A,B,hn,hAB,hl=>by
  apply Ev.succ
  simp only[an_.l0]
  exact Ev.neg (by simp<;>omega) (Ev.const (by simp))
 | n,[m],A,B,hn,hAB,hl=>by
  apply Ev.succ
  simp only[an_.l0]
  exact Ev.neg (by simp<;>omega) (Ev.const (by simp))
 | 0,m1::m2::M,A,B,hn,hAB,hl=>by simp at hn
 | n+1,m1::m2::M,A,B,hn,hAB,hl=>by
  obtain⟨M',z,hM⟩:∃M' z,m2::M=M'++[z]:=⟨(m2::M).dropLast,(m2::M).getLast (by simp),(List.dropLast_concat_getLast _).symm⟩
  rw[hM] at hn hl ⊢
  have hlen:(A++(m1::(M'++[z]))++B).length=A.length+(M'.length+2)+B.length:=by simp;omega
  rw[hlen] at hl
  simp only[List.length_cons,List.length_append,List.length_nil] at hn
  have e1:A++(m1::(M'++[z]))++B=A++m1::(M'++z::B):=by simp
  have e2:A++(m1::(M'++[z]))++B=(A++m1::M')++z::B:=by simp
  have hj:(A.length:Int)+(((m1::(M'++[z])).length:Nat):Int) - 1=(((A++m1::M').length:Nat):Int):=by simp;omega
  have hj2:(((A++m1::M').length:Nat):Int)=(A.length:Int)+M'.length+1:=by simp;omega
  rw[hj]
  have ih:=reverse_loop n M' (A++[z]) (m1::B) (by omega) (by simp;omega) (by simp;omega)
  apply Ev.succ
  simp only[an_.l0]
  have r1:rdOf ByteArray.empty (A++(m1::(M'++[z]))++B) (A.length:Int)=m1:=rdOf_mid e1
  have r2:rdOf ByteArray.empty (A++(m1::(M'++[z]))++B) (((A++m1::M').length:Nat):Int)=z:=rdOf_mid e2
  rw[r1,r2,w64 (i:=(A.length:Int)+1) (by omega) (by omega),w64 (i:=(((A++m1::M').length:Nat):Int) - 1) (by omega) (by omega)]
  refine Ev.pos (by omega) (Ev.pos (by omega) (Ev.pos (by rw[hlen];omega) (Ev.pos (by omega) (Ev.pos (by rw[hlen];omega) ?_))))
  have s1:(A++(m1::(M'++[z]))++B).set ((A.length:Int)).toNat z=(A++z::M')++z::B:=by
   rw[e1,set_mid]
   simp
  have s2:((A++z::M')++z::B).set ((((A++m1::M').length:Nat):Int)).toNat m1=(A++[z])++M'++(m1::B):=by
   have:(((A++m1::M').length:Nat):Int)=(((A++z::M').length:Nat):Int):=by simp
   rw[this,set_mid]
   simp
  rw[s1,s2]
  have c1:(((A++[z]).length:Nat):Int)=(A.length:Int)+1:=by simp
  have c2:(A.length:Int)+1+(M'.length:Int) - 1=(((A++m1::M').length:Nat):Int) - 1:=by rw[hj2];omega
  rw[c1,c2] at ih
  refine Ev.eq_ ih ?_
  simp
theorem reverse_eq (l:List ByteArray) (hl:l.length≤1048577):Ev (fun k=>an_.f k l) l.reverse:=by
 unfold an_.f
 rw[w64 (by omega) (by omega)]
 have:=reverse_loop l.length l [] [] (Nat.le_refl _) rfl (by simpa using hl)
 simpa using this
theorem cmpStr_eq (a b:ByteArray):cm_.f a b=some (if ltS a b=true then -1 else if bts a=bts b then 0 else 1):=by
 unfold cm_.f bi_.f ltS
 simp only[Option.bind_some,bne_self_eq_false,Bool.false_eq_true,if_false,b4_]
 split
 ·rfl
 ·split<;>rfl
theorem sliceCompare_eq (x y:List ByteArray) (hx:x.length≤1048577) (hy:y.length≤1048577):Ev (fun k=>aQ_.f k x y) (cmpR x y):=by
 unfold aQ_.f
 have main:∀(s t p q:List ByteArray),x=p++s→y=q++t→p.length=q.length→Ev (fun k=>aQ_.l0 k x y x (x.length:Int) (p.length:Int)) (cmpR s t):=by
  intro s
  induction s with
  | nil =>
   intro t p q e1 e2 hp
   have l1:x.length=p.length:=by rw[e1];simp
   have l2:y.length=q.length+t.length:=by rw[e2];simp
   apply Ev.succ
   simp only[aQ_.l0]
   refine Ev.neg (by omega) ?_
   cases t with
   | nil=>simp only[List.length_nil] at l2;exact Ev.neg (by omega) (Ev.const rfl)
   | cons b t=>simp only[List.length_cons] at l2;exact Ev.pos (by omega) (Ev.const rfl)
  | cons a s ih =>
   intro t p q e1 e2 hp
   have m1:=bs_ e1
   apply Ev.succ
   simp only[aQ_.l0,rdOf_mid e1]
   refine Ev.pos m1.1 (Ev.pos (by omega) (Ev.pos m1.1 ?_))
   cases t with
   | nil =>
    have l2:y.length=q.length:=by rw[e2];simp
    exact Ev.pos (by omega) (Ev.const rfl)
   | cons b t =>
    have m2:=bs_ e2
    have rb:rdOf ByteArray.empty y (p.length:Int)=b:=by rw[hp];exact rdOf_mid e2
    have hg:=ih t (p++[a]) (q++[b]) (by rw[e1];simp) (by rw[e2];simp) (by simp[hp])
    have ec:(((p++[a]).length:Nat):Int)=(p.length:Int)+1:=by simp
    rw[ec] at hg
    rw[rb,w64 (i:=(p.length:Int)+1) (by omega) (by omega)]
    refine Ev.neg (by omega) (Ev.pos (by omega) (Ev.cbind _ (cmpStr_eq a b) ?_))
    have hc:cmpR (a::s) (b::t)=if ltS a b=true then -1 else if bts a=bts b then cmpR s t else 1:=rfl
    rw[hc]
    by_cases h1:ltS a b=true
    ·rw[if_pos h1,if_pos h1]
     exact Ev.neg (by omega) (Ev.const rfl)
    ·rw[if_neg h1,if_neg h1]
     by_cases h2:bts a=bts b
     ·rw[if_pos h2,if_pos h2]
      exact Ev.pos rfl hg
     ·rw[if_neg h2,if_neg h2]
      exact Ev.neg (by omega) (Ev.const rfl)
 simpa using main x y [] [] rfl rfl rfl
theorem compareNames_eq (a b:ByteArray) (ha:a.size≤1048576) (hb:b.size≤1048576):Ev (fun k=>bX_.f k a b) (cmpN a b):=by
 have la:=labels_len a
 have lb:=labels_len b
 unfold bX_.f
 refine Ev.bind' _ (labelsOf_eq a ha) (Ev.bind' _ (labelsOf_eq b hb) (Ev.bind' _ (reverse_eq _ (by omega)) (Ev.bind' _ (reverse_eq _ (by omega)) (Ev.bind' _ (sliceCompare_eq _ _ (by simp;omega) (by simp;omega)) (Ev.const rfl)))))
theorem nameOk_byte {s:ByteArray} (h:nameOk s=true) {b:UInt8} (hb:b∈bts s):b=46∨b=42∨okB b=true:=by
 have hl:=nameOk_labels' h
 rw[List.all_eq_true] at hl
 unfold labels at hl
 by_cases he:bts s=[]
 ·rw[he] at hb;cases hb
 ·rw[if_neg he] at hl
  rcases splitC_mem 46 (bts s) [] b (Or.inr hb) with h2|⟨x,hx,h2⟩
  ·exact Or.inl h2
  ·rcases labelOk_in (hl x hx) h2 with h3|h3
   ·rw[h3] at h2
    simp only[List.mem_singleton] at h2
    exact Or.inr (Or.inl h2)
   ·exact Or.inr (Or.inr h3)
theorem target_no32 {s:ByteArray} (h:(32:UInt8)∈bts s):targetOk s=false:=by
 cases ht:targetOk s with
 | false=>rfl
 | true =>
  rcases nameOk_byte (target_name ht) h with h2|h2|h2
  ·cases h2
  ·cases h2
  ·exact absurd h2 (by decide)
theorem target_empty:targetOk (⟨#[]⟩:ByteArray)=false:=by
 unfold targetOk
 have:bts (⟨#[]⟩:ByteArray)=[]:=rfl
 simp[this]
theorem wireB_small {s:ByteArray} (h:targetOk s=true):(wireB s).size≤488:=(labelBytes_eq s (target_name h)).2
def tgt (kind:Int):Bool:=decide (kind=2∨kind=5)
theorem specJ1_eq (kind:Int) (s:ByteArray) (hs:s.size≤1048576) (h1:kind≠1):∃B,Ev (fun k=>ak_.j1 k s kind (tgt kind)) (B,dataOk kind s)∧(dataOk kind s=true→B=dataB kind s):=by
 have hz:=bE_ s
 unfold dataOk dataB
 rw[if_neg h1,if_neg h1]
 by_cases ht:kind=2∨kind=5
 ·rw[if_pos ht,if_pos ht,show tgt kind=true from decide_eq_true ht]
  cases hk:targetOk s with
  | false =>
   refine⟨(⟨#[]⟩:ByteArray),Ev.succ ?_,fun h=>by cases h⟩
   ·simp only[ak_.j1]
    refine Ev.pos (by first|rfl|trivial) (Ev.bind' _ (specTarget_eq s hs) ?_)
    rw[hk]
    exact Ev.a1_ (Ev.const rfl)
  | true =>
   refine⟨_,Ev.succ ?_,fun _=>rfl⟩
   simp only[ak_.j1]
   refine Ev.pos (by first|rfl|trivial) (Ev.bind' _ (specTarget_eq s hs) ?_)
   rw[hk]
   exact Ev.a3_ (Ev.bind' _ (l2Bytes_eq s (target_name hk)) (Ev.const rfl))
 ·rw[if_neg ht,if_neg ht,show tgt kind=false from decide_eq_false ht]
  by_cases h6:kind=6
  ·rw[if_pos h6,if_pos h6]
   refine⟨byt4 (numOf (bts s)),Ev.succ ?_,fun _=>rfl⟩
   simp only[ak_.j1]
   refine Ev.neg (by simp) (Ev.pos h6 (Ev.bind' _ (l1Int_eq s hs) (Ev.bind' _ (number4_eq _) (Ev.cbind _ (l1In_eq _ _ _) (Ev.const ?_)))))
   rw[in255]
  ·rw[if_neg h6,if_neg h6]
   by_cases h15:kind=15
   ·rw[if_pos h15,if_pos h15]
    have step:∀r,Ev (fun k=>if ((splitC 32 [] (bts s)).length:Int)=2 then(if 0<((splitC 32 [] (bts s)).length:Int) then((a2_.f k (rdOf ByteArray.empty (splitC 32 [] (bts s)) 0)).bind fun t175=>((a6_.f t175 0 65535).bind fun t176=>(if t176=true then(if 1<((splitC 32 [] (bts s)).length:Int) then((bn_.f k (rdOf ByteArray.empty (splitC 32 [] (bts s)) 1)).bind fun t178=>(ak_.j2 k (splitC 32 [] (bts s)) (!t178))) else(none)) else(ak_.j2 k (splitC 32 [] (bts s)) true)))) else(none)) else(ak_.j2 k (splitC 32 [] (bts s)) true)) r→Ev (fun k=>ak_.j1 k s kind false) r:=by
     intro r h
     apply Ev.succ
     simp only[ak_.j1]
     exact Ev.neg (by simp) (Ev.neg h6 (Ev.pos h15 (Ev.bind' _ (specSplitC_eq 32 s hs) h)))
    have hbad:∀L,Ev (fun k=>ak_.j2 k L true) ((⟨#[]⟩:ByteArray),false):=by
     intro L
     apply Ev.succ
     simp only[ak_.j2]
     exact Ev.pos (by first|rfl|trivial) (Ev.const rfl)
    unfold mxOk mxB
    cases hc:cutB 32 (bts s) with
    | none =>
     refine⟨(⟨#[]⟩:ByteArray),step _ ?_,fun h=>by cases h⟩
     ·rw[splitC_none 32 (bts s) [] (cutB_none hc)]
      exact Ev.neg (by simp) (hbad _)
    | some pq =>
     obtain⟨p,q⟩:=pq
     obtain⟨e,hp⟩:=cutB_some hc
     have hlen:(bts s).length=p.length+(q.length+1):=by rw[e];simp
     have hsp:splitC 32 [] (bts s)=⟨p.toArray⟩::splitC 32 [] q:=by
      rw[e,splitC_pre 32 q p [] hp]
      rfl
     simp only
     by_cases hq:(32:UInt8)∈q
     ·have htq:targetOk ⟨q.toArray⟩=false:=target_no32 (by rw[bts_mk];exact hq)
      rw[htq,Bool.and_false]
      refine⟨(⟨#[]⟩:ByteArray),step _ ?_,fun h=>by cases h⟩
      ·have h2:=splitC_two 32 q [] hq
       rw[hsp]
       exact Ev.neg (by simp only[List.length_cons];omega) (hbad _)
     ·rw[splitC_none 32 q [] hq] at hsp
      have hps:(⟨p.toArray⟩:ByteArray).size≤1048576:=by rw[bE_,bts_mk];omega
      have hqs:(⟨q.toArray⟩:ByteArray).size≤1048576:=by rw[bE_,bts_mk];omega
      have hsp2:splitC 32 [] (bts s)=[⟨p.toArray⟩,⟨q.toArray⟩]:=hsp
      have r0:rdOf ByteArray.empty ([⟨p.toArray⟩,⟨q.toArray⟩]:List ByteArray) 0=⟨p.toArray⟩:=rfl
      have r1:rdOf ByteArray.empty ([⟨p.toArray⟩,⟨q.toArray⟩]:List ByteArray) 1=⟨q.toArray⟩:=rfl
      have hn:=l1Int_eq ⟨p.toArray⟩ hps
      rw[bts_mk] at hn
      cases hk:numOk p 65535&&targetOk ⟨q.toArray⟩ with
      | false =>
       refine⟨(⟨#[]⟩:ByteArray),step _ ?_,fun h=>by cases h⟩
       ·rw[hsp2,r0,r1]
        refine Ev.pos (by simp) (Ev.pos (by simp) (Ev.bind' _ hn (Ev.cbind _ (l1In_eq _ _ _) ?_)))
        rw[in255]
        cases hp2:numOk p 65535 with
        | false=>exact Ev.a1_ (hbad _)
        | true =>
         rw[hp2,Bool.true_and] at hk
         refine Ev.a3_ (Ev.pos (by simp) (Ev.bind' _ (specTarget_eq _ hqs) ?_))
         rw[hk]
         exact hbad _
      | true =>
       simp only[Bool.and_eq_true] at hk
       refine⟨byt2 (numOf p)++(wireB ⟨q.toArray⟩++(⟨#[0]⟩:ByteArray)),step _ ?_,fun _=>rfl⟩
       rw[hsp2,r0,r1]
       refine Ev.pos (by simp) (Ev.pos (by simp) (Ev.bind' _ hn (Ev.cbind _ (l1In_eq _ _ _) ?_)))
       rw[in255,hk.1]
       refine Ev.a3_ (Ev.pos (by simp) (Ev.bind' _ (specTarget_eq _ hqs) ?_))
       rw[hk.2]
       apply Ev.succ
       simp only[ak_.j2,r0,r1]
       have hw:=wireB_small hk.2
       have h0:(⟨#[0]⟩:ByteArray).size=1:=rfl
       have hb2:=byt2_size (numOf p)
       refine Ev.neg (by simp) (Ev.pos (by simp) (Ev.bind' _ hn (Ev.bind' _ (number2_eq _) (Ev.pos (by simp) (Ev.bind' _ (l2Bytes_eq _ (target_name hk.2)) (Ev.pos ?_ (Ev.const rfl)))))))
       rw[sz_app,h0,hb2]
       omega
   ·rw[if_neg h15,if_neg h15]
    by_cases h16:kind=16
    ·rw[if_pos h16,if_pos h16]
     have main:Ev (fun k=>ak_.l1 k s 0) (if (bts s).all txtC=true then(byt1 (s.size:Int)++s,decide ((s.size:Int)≤30)) else((⟨#[]⟩:ByteArray),false)):=by
      refine Ev.eq_ (bD_ (bts s) (fun k (_:Unit) i=>ak_.l1 k s i) (fun _ t=>if t.all txtC=true then(byt1 (s.size:Int)++s,decide ((s.size:Int)≤30)) else((⟨#[]⟩:ByteArray),false)) (fun _ _=>True) ?_ ?_ () trivial) rfl
      ·intro _ _
       apply Ev.succ
       simp only[ak_.l1]
       have hb1:(strOfNums [(s.size:Int) % 256]).size=1:=strOfNums_size _
       exact Ev.neg (by omega) (Ev.cbind _ rfl (Ev.pos (by omega) (Ev.const (by simp[byt1]))))
      ·intro p b t _ e _ ih
       have hm:=bs_ e
       apply Ev.succ
       simp only[ak_.l1]
       refine Ev.pos (by omega) (Ev.pos (by omega) ?_)
       rw[bt_mid e,w64 (i:=(p.length:Int)+1) (by omega) (by omega)]
       by_cases c1:(b.toNat:Int)<32
       ·refine Ev.pos c1 (Ev.const ?_)
        have:txtC b=false:=by unfold txtC;simp;omega
        simp[this]
       ·refine Ev.neg c1 ?_
        by_cases c2:(b.toNat:Int) > 126
        ·refine Ev.pos c2 (Ev.const ?_)
         have:txtC b=false:=by unfold txtC;simp;omega
         simp[this]
        ·refine Ev.neg c2 (Ev.eq_ (ih () trivial) ?_)
         have:txtC b=true:=by unfold txtC;simp;omega
         simp[this]
     have jj:∀r,Ev (fun k=>ak_.l1 k s 0) r→Ev (fun k=>ak_.j1 k s kind false) r:=by
      intro r h
      apply Ev.succ
      simp only[ak_.j1]
      exact Ev.neg (by simp) (Ev.neg h6 (Ev.neg h15 (Ev.pos h16 h)))
     refine⟨if (bts s).all txtC=true then byt1 (s.size:Int)++s else(⟨#[]⟩:ByteArray),jj _ (Ev.eq_ main ?_),?_⟩
     ·unfold txtOk
      by_cases ha:(bts s).all txtC=true
      ·rw[if_pos ha,if_pos ha,ha]
       have:decide ((s.size:Int)≤30)=decide ((bts s).length≤30):=decide_eq_decide.mpr (by omega)
       rw[this,Bool.true_and]
      ·rw[if_neg ha,if_neg ha]
       simp[ha]
     ·intro h
      unfold txtOk at h
      simp only[Bool.and_eq_true] at h
      rw[if_pos h.1]
    ·rw[if_neg h16]
     refine⟨(⟨#[]⟩:ByteArray),Ev.succ ?_,fun h=>by cases h⟩
     ·simp only[ak_.j1]
      exact Ev.neg (by simp) (Ev.neg h6 (Ev.neg h15 (Ev.neg h16 (Ev.const rfl))))
theorem specData_eq (kind:Int) (s:ByteArray) (hs:s.size≤1048576):∃B,Ev (fun k=>ak_.f k kind s) (B,dataOk kind s)∧(dataOk kind s=true→B=dataB kind s):=by
 by_cases h1:kind=1
 ·subst h1
  obtain⟨B,h2,h3⟩:=specA_eq s hs
  have e1:dataOk 1 s=aOk s:=by unfold dataOk;rw[if_pos rfl]
  have e2:dataB 1 s=aB s:=by unfold dataB;rw[if_pos rfl]
  rw[e1,e2]
  exact⟨B,h2,h3⟩
 ·obtain⟨B,h2,h3⟩:=specJ1_eq kind s hs h1
  refine⟨B,?_,h3⟩
  unfold ak_.f
  refine Ev.neg h1 ?_
  by_cases h22:kind=2
  ·refine Ev.pos h22 ?_
   have:(kind==2)=tgt kind:=by unfold tgt;simp[h22]
   rw[this]
   exact h2
  ·refine Ev.neg h22 ?_
   have:(kind==5)=tgt kind:=by
    unfold tgt
    by_cases h5:kind=5<;>simp[h22,h5]
   rw[this]
   exact h2
theorem txt_any (s:ByteArray):(bytesOf s).any (fun n=>decide (n<32)||decide (n > 126)) = !(bts s).all txtC:=by
 unfold bytesOf
 show((bts s).map fun b=>(b.toNat:Int)).any _=_
 rw[List.any_map]
 induction bts s with
 | nil=>rfl
 | cons b t ih =>
  simp only[List.any_cons,List.all_cons,ih,Bool.not_and,Function.comp]
  congr 1
  unfold txtC
  by_cases h1:(b.toNat:Int)<32
  ·have h2:¬32≤b.toNat:=by omega
   simp[h1,h2]
  ·have h2:32≤b.toNat:=by omega
   by_cases h3:(b.toNat:Int) > 126
   ·have h4:¬b.toNat≤126:=by omega
    simp[h1,h2,h3,h4]
   ·have h4:b.toNat≤126:=by omega
    simp[h1,h2,h3,h4]
theorem implJ1_eq (kind:Int) (s:ByteArray) (hs:s.size≤1048576) (h1:kind≠1):Ev (fun k=>aA_.j1 k s kind (tgt kind)) (if dataOk kind s=true then(dataB kind s,true) else((⟨#[]⟩:ByteArray),false)):=by
 have hz:=bE_ s
 have h0:(⟨#[0]⟩:ByteArray).size=1:=rfl
 unfold dataOk dataB
 rw[if_neg h1,if_neg h1]
 by_cases ht:kind=2∨kind=5
 ·rw[if_pos ht,if_pos ht,show tgt kind=true from decide_eq_true ht]
  apply Ev.succ
  simp only[aA_.j1]
  refine Ev.pos (by first|rfl|trivial) (Ev.bind' _ (isTarget_eq s hs) ?_)
  cases hk:targetOk s with
  | false=>exact Ev.a1_ (Ev.const rfl)
  | true =>
   have hw:=labelBytes_eq s (target_name hk)
   exact Ev.a3_ (Ev.bind' _ hw.1 (Ev.pos (by have:=hw.2;omega) (Ev.const rfl)))
 ·rw[if_neg ht,if_neg ht,show tgt kind=false from decide_eq_false ht]
  by_cases h6:kind=6
  ·rw[if_pos h6,if_pos h6]
   obtain⟨v,hv,hv2⟩:=numberIn_eq s hs 4294967295 (by omega)
   apply Ev.succ
   simp only[aA_.j1]
   refine Ev.neg (by simp) (Ev.pos h6 (Ev.cbind _ hv ?_))
   cases hn:numOk (bts s) 4294967295 with
   | false=>exact Ev.a1_ (Ev.const rfl)
   | true =>
    have:=hv2 hn
    subst this
    exact Ev.a3_ (Ev.bind' _ (big4_eq _) (Ev.const rfl))
  ·rw[if_neg h6,if_neg h6]
   have hbad:∀a b,Ev (fun k=>aA_.j2 k a b true) ((⟨#[]⟩:ByteArray),false):=by
    intro a b
    apply Ev.succ
    simp only[aA_.j2]
    exact Ev.pos (by first|rfl|trivial) (Ev.const rfl)
   by_cases h15:kind=15
   ·rw[if_pos h15,if_pos h15]
    unfold mxOk mxB
    have hcut:=strCut32 s hs
    cases hc:cutB 32 (bts s) with
    | none =>
     rw[hc] at hcut
     simp only at hcut
     obtain⟨v,hv,hv2⟩:=numberIn_eq s hs 65535 (by omega)
     apply Ev.succ
     simp only[aA_.j1]
     refine Ev.neg (by simp) (Ev.neg h6 (Ev.pos h15 (Ev.cbind _ hcut (Ev.cbind _ hv ?_))))
     cases hn:numOk (bts s) 65535 with
     | false=>exact Ev.a1_ (Ev.eq_ (hbad _ _) rfl)
     | true =>
      refine Ev.a3_ (Ev.bind' _ (isTarget_eq (⟨#[]⟩:ByteArray) (by decide)) ?_)
      rw[target_empty]
      exact Ev.eq_ (hbad _ _) rfl
    | some pq =>
     obtain⟨p,q⟩:=pq
     rw[hc] at hcut
     simp only at hcut
     obtain⟨e,hp⟩:=cutB_some hc
     have hlen:(bts s).length=p.length+(q.length+1):=by rw[e];simp
     have hps:(⟨p.toArray⟩:ByteArray).size≤1048576:=by rw[bE_,bts_mk];omega
     have hqs:(⟨q.toArray⟩:ByteArray).size≤1048576:=by rw[bE_,bts_mk];omega
     obtain⟨v,hv,hv2⟩:=numberIn_eq ⟨p.toArray⟩ hps 65535 (by omega)
     rw[bts_mk] at hv hv2
     apply Ev.succ
     simp only[aA_.j1]
     refine Ev.neg (by simp) (Ev.neg h6 (Ev.pos h15 (Ev.cbind _ hcut (Ev.cbind _ hv ?_))))
     cases hn:numOk p 65535 with
     | false=>exact Ev.a1_ (Ev.eq_ (hbad _ _) (by simp))
     | true =>
      have:=hv2 hn
      subst this
      refine Ev.a3_ (Ev.bind' _ (isTarget_eq _ hqs) ?_)
      cases hk:targetOk ⟨q.toArray⟩ with
      | false=>exact Ev.eq_ (hbad _ _) (by simp)
      | true =>
       have hw:=labelBytes_eq _ (target_name hk)
       have hb2:=byt2_size (numOf p)
       apply Ev.succ
       simp only[aA_.j2]
       refine Ev.neg (by simp) (Ev.bind' _ (big2_eq _) (Ev.bind' _ hw.1 (Ev.pos (by have:=hw.2;omega) (Ev.pos (by rw[sz_app,hb2];have:=hw.2;omega) (Ev.const ?_)))))
       simp[ByteArray.append_assoc]
   ·rw[if_neg h15,if_neg h15]
    by_cases h16:kind=16
    ·rw[if_pos h16,if_pos h16]
     apply Ev.succ
     simp only[aA_.j1]
     refine Ev.neg (by simp) (Ev.neg h6 (Ev.neg h15 (Ev.pos h16 ?_)))
     unfold txtOk
     by_cases h30:(s.size:Int) > 30
     ·refine Ev.pos h30 (Ev.const ?_)
      have:¬(bts s).length≤30:=by omega
      simp[this]
     ·have h30':(bts s).length≤30:=by omega
      refine Ev.neg h30 (Ev.pos (by omega) (Ev.bind' _ (aT_.any (bytesOf s) (fun n=>decide (n<32)||decide (n > 126)) (by rw[bytesOf_length];omega) ?_) ?_))
      ·intro n _
       unfold cl_.f
       by_cases hn:n<32
       ·exact Ev.pos hn (Ev.const (by simp[hn]))
       ·exact Ev.neg hn (Ev.const (by simp[hn]))
      ·rw[txt_any]
       have hb1:=byt1_size (s.size:Int)
       cases ha:(bts s).all txtC with
       | false=>exact Ev.a3_ (Ev.const (by simp))
       | true=>exact Ev.a1_ (Ev.bind' _ (big1_eq _) (Ev.pos (by omega) (Ev.const (by simp[h30']))))
    ·rw[if_neg h16]
     apply Ev.succ
     simp only[aA_.j1]
     exact Ev.neg (by simp) (Ev.neg h6 (Ev.neg h15 (Ev.neg h16 (Ev.const rfl))))
theorem implData_eq (kind:Int) (s:ByteArray) (hs:s.size≤1048576):Ev (fun k=>aA_.f k kind s) (if dataOk kind s=true then(dataB kind s,true) else((⟨#[]⟩:ByteArray),false)):=by
 by_cases h1:kind=1
 ·subst h1
  have e1:dataOk 1 s=aOk s:=by unfold dataOk;rw[if_pos rfl]
  have e2:dataB 1 s=aB s:=by unfold dataB;rw[if_pos rfl]
  rw[e1,e2]
  exact implA_eq s hs
 ·have h2:=implJ1_eq kind s hs h1
  unfold aA_.f
  refine Ev.neg h1 ?_
  by_cases h22:kind=2
  ·refine Ev.pos h22 ?_
   have:(kind==2)=tgt kind:=by unfold tgt;simp[h22]
   rw[this]
   exact h2
  ·refine Ev.neg h22 ?_
   have:(kind==5)=tgt kind:=by
    unfold tgt
    by_cases h5:kind=5<;>simp[h22,h5]
   rw[this]
   exact h2
theorem dataBytes_eq (kind:Int) (s:ByteArray) (hs:s.size≤1048576) (h:dataOk kind s=true):Ev (fun k=>cf_.f k kind s) (dataB kind s):=by
 unfold cf_.f
 have:=implData_eq kind s hs
 rw[if_pos h] at this
 exact Ev.bind' _ this (Ev.pos rfl (Ev.const rfl))
theorem numOk_len {l:List UInt8} {m:Int} (h:numOk l m=true):l.length≤10∧isNumeral l=true∧(valF 0 l:Int)≤m:=by
 unfold numOk numOf at h
 simp only[decide_eq_true_eq] at h
 by_cases hn:isNumeral l=true∧l.length≤10
 ·rw[if_pos hn] at h
  exact⟨hn.2,hn.1,h.2⟩
 ·rw[if_neg hn] at h
  omega
theorem numOk_digits {l:List UInt8} {m:Int} (n:Nat) (hn:1≤n) (hm:m<10 ^ n) (h:numOk l m=true):l.length≤n:=by
 obtain⟨h1,h2,h3⟩:=numOk_len h
 rcases Nat.lt_or_ge n l.length with h4|h4
 ·have:=numeral_great l h2 (by omega)
  have h5:10 ^ n≤10 ^ (l.length - 1):=Nat.pow_le_pow_right (by decide) (by omega)
  have h6:((10 ^ n:Nat):Int)≤((valF 0 l:Nat):Int):=by omega
  have h7:((10 ^ n:Nat):Int)=(10:Int) ^ n:=by simp
  omega
 ·exact h4
theorem splitC_total (c:UInt8):∀(l cur:List UInt8),cur.length+l.length+1=((splitC c cur l).map ByteArray.size).sum+(splitC c cur l).length
 | [],cur=>by
  simp only[splitC,List.map_cons,List.map_nil,List.sum_cons,List.sum_nil,List.length_cons,List.length_nil]
  rw[bE_,bts_mk]
  omega
 | b::l,cur=>by
  unfold splitC
  by_cases hb:b=c
  ·rw[if_pos hb]
   have:=splitC_total c l []
   simp only[List.map_cons,List.sum_cons,List.length_cons,List.length_nil] at this ⊢
   rw[bE_,bts_mk]
   omega
  ·rw[if_neg hb]
   have:=splitC_total c l (cur++[b])
   simp only[List.length_cons,List.length_append,List.length_nil] at this ⊢
   omega
theorem data_small {kind:Int} {s:ByteArray} (h:dataOk kind s=true):s.size≤100:=by
 have hz:=bE_ s
 unfold dataOk at h
 split at h
 ·unfold aOk at h
  simp only[Bool.and_eq_true,decide_eq_true_eq,List.all_eq_true] at h
  have ht:=splitC_total 46 (bts s) []
  have h4:(splitC 46 [] (bts s)).length=4:=h.2
  have hs:∀x∈splitC 46 [] (bts s),x.size≤3:=by
   intro x hx
   have:=numOk_digits 3 (by omega) (by decide) (h.1 x hx)
   rw[bE_]
   exact this
  have hsum:∀(L:List ByteArray),(∀x∈L,x.size≤3)→(L.map ByteArray.size).sum≤3 * L.length:=by
   intro L
   induction L with
   | nil=>intro _;simp
   | cons x t ih =>
    intro hL
    have h1:=hL x (by simp)
    have h2:=ih (fun y hy=>hL y (by simp[hy]))
    simp only[List.map_cons,List.sum_cons,List.length_cons]
    omega
  have:=hsum _ hs
  simp only[List.length_nil] at ht
  omega
 ·split at h
  ·have:=(nameOk_small (target_name h)).1
   omega
  ·split at h
   ·have:=(numOk_len h).1
    omega
   ·split at h
    ·unfold mxOk at h
     cases hc:cutB 32 (bts s) with
     | none=>rw[hc] at h;cases h
     | some pq =>
      obtain⟨p,q⟩:=pq
      rw[hc] at h
      simp only[Bool.and_eq_true] at h
      obtain⟨e,_⟩:=cutB_some hc
      have h1:=(numOk_len h.1).1
      have h2:=(nameOk_small (target_name h.2)).1
      rw[bE_,bts_mk] at h2
      have hlen:(bts s).length=p.length+(q.length+1):=by rw[e];simp
      omega
    ·split at h
     ·unfold txtOk at h
      simp only[Bool.and_eq_true,decide_eq_true_eq] at h
      omega
     ·cases h
def recOk (a:ByteArray) (b c:Int) (d:ByteArray):Bool:=dataOk b d&&nameOk a&&inR c 0 100000
theorem specRec_eq (a:ByteArray) (b c:Int) (d:ByteArray) (ha:a.size≤1048576) (hd:d.size≤1048576):Ev (fun k=>bw_.f k a b c d) (recOk a b c d):=by
 unfold bw_.f recOk
 obtain⟨B,h1,h2⟩:=specData_eq b d hd
 refine Ev.bind' _ h1 ?_
 cases hk:dataOk b d with
 | false=>exact Ev.a1_ (Ev.const rfl)
 | true =>
  refine Ev.a3_ (Ev.bind' _ (specGoodName_eq a ha) ?_)
  cases hn:nameOk a with
  | false=>exact Ev.a1_ (Ev.const rfl)
  | true=>exact Ev.a3_ (Ev.cbind _ (l1In_eq _ _ _) (Ev.const (by simp)))
theorem implRec_eq (a:ByteArray) (b c:Int) (d:ByteArray) (ha:a.size≤1048576) (hd:d.size≤1048576):Ev (fun k=>ci_.f k a b c d) (recOk a b c d):=by
 unfold ci_.f recOk
 refine Ev.bind' _ (implGoodName_eq a ha) ?_
 cases hn:nameOk a with
 | false=>exact Ev.a1_ (Ev.const (by simp))
 | true =>
  refine Ev.a3_ (Ev.cbind _ (within_eq _ _ _) ?_)
  cases hr:inR c 0 100000 with
  | false=>exact Ev.a1_ (Ev.const (by simp))
  | true =>
   refine Ev.a3_ ?_
   by_cases h100:(d.size:Int) > 100
   ·refine Ev.pos h100 (Ev.const ?_)
    cases hk:dataOk b d with
    | false=>rfl
    | true=>have:=data_small hk;omega
   ·refine Ev.neg h100 (Ev.bind' _ (implData_eq b d hd) (Ev.const ?_))
    cases hk:dataOk b d<;>simp
def cmpI (a b:Int):Int:=if a<b then -1 else if a > b then 1 else 0
def cmpB (a b:List UInt8):Int:=if Op.bytesLess a b=true then -1 else if a=b then 0 else 1
def cmpRec (a b:ae_):Int :=
 if cmpN a.f0 b.f0=0 then(if a.f1=b.f1 then(if bts (dataB a.f1 a.f3)=bts (dataB b.f1 b.f3) then cmpI a.f2 b.f2
  else(if Op.bytesLess (bts (dataB a.f1 a.f3)) (bts (dataB b.f1 b.f3))=true then -1 else 1)) else(if a.f1<b.f1 then -1 else 1)) else cmpN a.f0 b.f0
def okR (r:ae_):Bool:=recOk r.f0 r.f1 r.f2 r.f3
def szR (r:ae_):Prop:=r.f0.size≤1048576∧r.f3.size≤1048576
theorem okR_data {r:ae_} (h:okR r=true):dataOk r.f1 r.f3=true:=by
 unfold okR recOk at h
 simp only[Bool.and_eq_true] at h
 exact h.1.1
theorem okR_name {r:ae_} (h:okR r=true):nameOk r.f0=true:=by
 unfold okR recOk at h
 simp only[Bool.and_eq_true] at h
 exact h.1.2
theorem less_eq (b:Bool):cd_.f b=some (if b=true then -1 else 1):=by
 unfold cd_.f
 split<;>rfl
theorem specCmpRec_eq (a b:ae_) (ha:szR a) (hb:szR b) (ga:okR a=true) (gb:okR b=true):Ev (fun k=>b0_.f k a.f0 a.f1 a.f2 a.f3 b.f0 b.f1 b.f2 b.f3) (cmpRec a b):=by
 unfold b0_.f
 refine Ev.bind' _ (specCompare_eq a.f0 b.f0 ha.1 hb.1 (nameOk_labels' (okR_name ga)) (nameOk_labels' (okR_name gb))) ?_
 by_cases hn:cmpN a.f0 b.f0=0
 ·refine Ev.pos hn ?_
  obtain⟨A,h1,h2⟩:=specData_eq a.f1 a.f3 ha.2
  obtain⟨B,h3,h4⟩:=specData_eq b.f1 b.f3 hb.2
  have hA:=h2 (okR_data ga)
  have hB:=h4 (okR_data gb)
  subst hA
  subst hB
  refine Ev.bind' _ h1 (Ev.bind' _ h3 ?_)
  simp only[b4_]
  by_cases ht:a.f1=b.f1
  ·refine Ev.pos ht ?_
   by_cases hd:bts (dataB a.f1 a.f3)=bts (dataB b.f1 b.f3)
   ·rw[show cmpRec a b=cmpI a.f2 b.f2 from by unfold cmpRec;rw[if_pos hn,if_pos ht,if_pos hd]]
    refine Ev.pos hd ?_
    unfold cmpI
    by_cases hq:a.f2=b.f2
    ·exact Ev.pos hq (Ev.const (by rw[hq];simp))
    ·refine Ev.neg hq (Ev.cbind _ (less_eq _) (Ev.const ?_))
     by_cases hl:a.f2<b.f2
     ·simp[hl]
     ·have:a.f2 > b.f2:=by omega
      simp[hl,this]
   ·rw[show cmpRec a b=(if Op.bytesLess (bts (dataB a.f1 a.f3)) (bts (dataB b.f1 b.f3))=true then -1 else 1) from by unfold cmpRec;rw[if_pos hn,if_pos ht,if_neg hd]]
    exact Ev.neg hd (Ev.cbind _ (less_eq _) (Ev.const rfl))
  ·rw[show cmpRec a b=(if a.f1<b.f1 then -1 else 1) from by unfold cmpRec;rw[if_pos hn,if_neg ht]]
   refine Ev.neg ht (Ev.cbind _ (less_eq _) (Ev.const ?_))
   by_cases hl:a.f1<b.f1<;>simp[hl]
 ·rw[show cmpRec a b=cmpN a.f0 b.f0 from by unfold cmpRec;rw[if_neg hn]]
  exact Ev.neg hn (Ev.const rfl)
theorem bytesLess_irr:∀(a:List UInt8),Op.bytesLess a a=false
 | []=>rfl
 | x::a=>by
  have h:¬x<x:=by simp
  unfold Op.bytesLess
  simp[h,bytesLess_irr a]
theorem compareBytes_eq:∀(a b:List UInt8),Go.Lib.compareBytes a b=cmpB a b
 | [],[]=>rfl
 | [],y::b=>rfl
 | x::a,[]=>by
  unfold Go.Lib.compareBytes cmpB
  have:Op.bytesLess (x::a) []=false:=rfl
  rw[this]
  simp
 | x::a,y::b=>by
  have ih:=compareBytes_eq a b
  unfold Go.Lib.compareBytes
  unfold cmpB at ih ⊢
  have e:Op.bytesLess (x::a) (y::b)=(decide (x<y)||(x==y&&Op.bytesLess a b)):=rfl
  rw[e]
  by_cases h1:x<y
  ·rw[if_pos h1];simp[h1]
  ·rw[if_neg h1]
   by_cases h2:y<x
   ·rw[if_pos h2]
    have h3:¬x=y:=by
     intro h
     subst h
     exact h1 h2
    simp[h1,h3]
   ·rw[if_neg h2]
    have h3:x=y:=by
     apply UInt8.toNat_inj.mp
     have h4:¬x.toNat<y.toNat:=fun h=>h1 (UInt8.lt_iff_toNat_lt.mpr h)
     have h5:¬y.toNat<x.toNat:=fun h=>h2 (UInt8.lt_iff_toNat_lt.mpr h)
     omega
    subst h3
    rw[ih]
    simp[h1]
def orI:List Int→Int
 | []=>0
 | x::t=>if x=0 then orI t else x
theorem cmpOr_eq (l:List Int) (hl:l.length≤1048576):Ev (fun k=>bx_.f k l) (orI l):=by
 unfold bx_.f
 refine Ev.eq_ (bD_ l (fun k (_:Unit) i=>bx_.l0 k 0 l (l.length:Int) i) (fun _ t=>orI t) (fun _ _=>True) ?_ ?_ () trivial) rfl
 ·intro _ _
  apply Ev.succ
  simp only[bx_.l0]
  exact Ev.neg (by omega) (Ev.const rfl)
 ·intro p x t _ e _ ih
  have hm:=bs_ e
  apply Ev.succ
  simp only[bx_.l0,rd_mid' e]
  refine Ev.pos hm.1 (Ev.pos (by omega) (Ev.pos hm.1 ?_))
  rw[w64 (i:=(p.length:Int)+1) (by omega) (by omega)]
  by_cases h:x=0
  ·exact Ev.pos h (Ev.eq_ (ih () trivial) (by simp[orI,h]))
  ·exact Ev.neg h (Ev.const (by simp[orI,h]))
theorem cmpInt_eq (a b:Int):bP_.f a b=some (cmpI a b):=by
 unfold bP_.f bB_.f cmpI
 simp only[Option.bind_some,bne_self_eq_false,Bool.false_eq_true,if_false]
 split
 ·rfl
 ·split<;>rfl
theorem keys_eq (a b:ae_) (ha:szR a) (hb:szR b):Ev (fun k=>bu_.f k a.f0 a.f1 a.f2 a.f3 b.f0 b.f1 b.f2 b.f3) (orI [cmpN a.f0 b.f0,cmpI a.f1 b.f1]):=by
 unfold bu_.f
 exact Ev.bind' _ (compareNames_eq a.f0 b.f0 ha.1 hb.1) (Ev.cbind _ (cmpInt_eq _ _) (Ev.bind' _ (cmpOr_eq _ (by simp)) (Ev.const rfl)))
theorem cmpI_zero {a b:Int}:cmpI a b=0↔a=b:=by
 unfold cmpI
 by_cases h1:a<b
 ·simp[h1];omega
 ·by_cases h2:a > b
  ·simp[h1,h2];omega
  ·simp[h1,h2];omega
theorem implCmpRec_eq (a b:ae_) (ha:szR a) (hb:szR b) (ga:okR a=true) (gb:okR b=true):Ev (fun k=>bd_.f k a.f0 a.f1 a.f2 a.f3 b.f0 b.f1 b.f2 b.f3) (cmpRec a b):=by
 unfold bd_.f
 refine Ev.bind' _ (keys_eq a b ha hb) (Ev.bind' _ (dataBytes_eq _ _ ha.2 (okR_data ga)) (Ev.bind' _ (dataBytes_eq _ _ hb.2 (okR_data gb)) (Ev.cbind (cmpB (bts (dataB a.f1 a.f3)) (bts (dataB b.f1 b.f3))) ?_ (Ev.cbind _ (cmpInt_eq _ _) (Ev.bind' _ (cmpOr_eq _ (by simp)) (Ev.const ?_))))))
 ·unfold strings_Compare.f
  rw[compareBytes_eq]
  rfl
 ·rw[Option.some.injEq]
  have o3:∀x y z:Int,orI [orI [cmpN a.f0 b.f0,x],y,z]=if cmpN a.f0 b.f0=0 then(if x=0 then(if y=0 then z else y) else x) else cmpN a.f0 b.f0:=by
   intro x y z
   simp only[orI]
   by_cases hn:cmpN a.f0 b.f0=0
   ·by_cases hx:x=0
    ·by_cases hy:y=0
     ·by_cases hz:z=0<;>simp[hn,hx,hy,hz]
     ·simp[hn,hx,hy]
    ·simp[hn,hx]
   ·simp[hn]
  rw[o3]
  unfold cmpRec
  by_cases hn:cmpN a.f0 b.f0=0
  ·rw[if_pos hn,if_pos hn]
   by_cases ht:a.f1=b.f1
   ·rw[if_pos ht,if_pos (cmpI_zero.mpr ht)]
    unfold cmpB
    by_cases hd:bts (dataB a.f1 a.f3)=bts (dataB b.f1 b.f3)
    ·rw[if_pos hd,hd,bytesLess_irr]
     simp
    ·rw[if_neg hd]
     by_cases hl:Op.bytesLess (bts (dataB a.f1 a.f3)) (bts (dataB b.f1 b.f3))=true
     ·simp[hl,hd]
     ·simp[hl,hd]
   ·rw[if_neg ht,if_neg (fun h=>ht (cmpI_zero.mp h))]
    unfold cmpI
    by_cases hl:a.f1<b.f1
    ·simp[hl]
    ·have:a.f1 > b.f1:=by omega
     simp[hl,this]
  ·rw[if_neg hn,if_neg hn]
def riseFrom:ae_→List ae_→Bool
 | _,[]=>true
 | a,b::t=>okR b&&decide (cmpRec a b<0)&&riseFrom b t
def rises:List ae_→Bool
 | []=>true
 | a::t=>okR a&&riseFrom a t
def riseP (p:Option ae_) (l:List ae_):Bool:=match p with
 | none=>rises l
 | some a=>riseFrom a l
theorem getLast_mid {α:Type} {l p t:List α} {x:α} {d:α} (e:l=p++x::t) (hp:p≠[]):l.getD ((p.length:Int) - 1).toNat d=p.getLast hp:=by
 have h1:p=p.dropLast++[p.getLast hp]:=(List.dropLast_concat_getLast hp).symm
 have hl:0<p.length:=List.length_pos_iff.mpr hp
 have h2:((p.length:Int) - 1).toNat=p.dropLast.length:=by rw[List.length_dropLast];omega
 rw[h2]
 have e2:l=p.dropLast++(p.getLast hp::x::t):=by
  rw[e]
  conv=>lhs;rw[h1]
  simp only[List.append_assoc,List.singleton_append]
 rw[e2]
 simp[List.getD_eq_getElem?_getD]
theorem lastOpt_some {α:Type} {p:List α} (hp:p≠[]):p.getLast? = some (p.getLast hp):=List.getLast?_eq_some_getLast hp
theorem areRising_eq (l:List ae_) (hl:l.length≤1048576) (hs:∀r∈l,szR r):Ev (fun k=>aP_.f k l) (rises l):=by
 unfold aP_.f
 refine Ev.eq_ (bD_ l (fun k (_:Unit) i=>aP_.l0 k l l (l.length:Int) i) (fun _ t=>riseP (l.take (l.length - t.length)).getLast? t) (fun p _=>∀r∈p,okR r=true) ?_ ?_ () (by simp)) (by simp[riseP])
 ·intro _ _
  apply Ev.succ
  simp only[aP_.l0]
  refine Ev.neg (by omega) (Ev.const ?_)
  cases(List.take (l.length - ([]:List ae_).length) l).getLast?<;>simp[riseP,rises,riseFrom]
 ·intro p x t _ e hp ih
  have hm:=bs_ e
  have hx:=hs x (cn_ e)
  have ht1:l.take (l.length - (x::t).length)=p:=by rw[e];simp
  have ht2:l.take (l.length - t.length)=p++[x]:=by
   have e3:l=(p++[x])++t:=by rw[e];simp
   have e4:l.length - t.length=(p++[x]).length:=by rw[hm.2.2];simp<;>omega
   rw[e4,e3,List.take_left']
   rfl
  rw[ht1]
  rw[ht2] at ih
  apply Ev.succ
  simp only[aP_.l0,aa_,b6_ e]
  refine Ev.pos hm.1 (Ev.pos (by omega) (Ev.pos hm.1 (Ev.bind' (okR x) (implRec_eq _ _ _ _ hx.1 hx.2) ?_)))
  have hlast:(p++[x]).getLast? = some x:=by simp
  rw[hlast] at ih
  cases hk:okR x with
  | false =>
   refine Ev.a1_ (Ev.const ?_)
   cases p.getLast?<;>simp[riseP,rises,riseFrom,hk]
  | true =>
   refine Ev.a3_ ?_
   have hgo:=ih () (by intro r hr;rcases List.mem_append.mp hr with h|h;exact hp r h;simp only[List.mem_singleton] at h;rw[h];exact hk)
   by_cases hp0:p=[]
   ·subst hp0
    refine Ev.neg (by simp) ?_
    rw[w64 (by simp) (by simp)]
    refine Ev.eq_ hgo ?_
    simp[riseP,rises,hk]
   ·have hpl:0<p.length:=List.length_pos_iff.mpr hp0
    rw[w64 (i:=(p.length:Int) - 1) (by omega) (by omega),w64 (i:=(p.length:Int)+1) (by omega) (by omega),getLast_mid e hp0]
    have hlm:p.getLast hp0∈l:=by rw[e];exact List.mem_append_left _ (List.getLast_mem hp0)
    refine Ev.pos (by omega) (Ev.pos (by omega) (Ev.pos (by omega) (Ev.bind' _ (implCmpRec_eq _ x (hs _ hlm) hx (hp _ (List.getLast_mem hp0)) hk) ?_)))
    rw[lastOpt_some hp0]
    by_cases hc:cmpRec (p.getLast hp0) x≥0
    ·refine Ev.pos hc (Ev.const ?_)
     have:¬cmpRec (p.getLast hp0) x<0:=by omega
     simp[riseP,riseFrom,this]
    ·refine Ev.neg hc (Ev.eq_ hgo ?_)
     have:cmpRec (p.getLast hp0) x<0:=by omega
     simp[riseP,riseFrom,this,hk]
def cEnt (x:be_):ad_:=⟨x.f0,x.f1,x.f2,x.f3.map cRec,x.f4,x.f5⟩
def szLE (x:be_):Prop:=x.f0.size≤1048576∧x.f3.length≤1048576∧∀r∈x.f3,r.f0.size≤1048576∧r.f3.size≤1048576
def szE (x:ad_):Prop:=x.f0.size≤1048576∧x.f3.length≤1048576∧∀r∈x.f3,szR r
theorem szE_map {l:List be_} (h:∀x∈l,szLE x):∀x∈l.map cEnt,szE x:=by
 intro x hx
 obtain⟨y,hy,rfl⟩:=List.mem_map.mp hx
 obtain⟨h1,h2,h3⟩:=h y hy
 refine⟨h1,by simpa[cEnt] using h2,?_⟩
 intro r hr
 obtain⟨z,hz,rfl⟩:=List.mem_map.mp hr
 exact h3 z hz
theorem szEntryS_eq (l:List be_) (h:l.length≤maxLen∧∀x∈l,WF_LEntry x) (a:Int) (h0:0≤a) (h1:a≤1048576):Szd (fun k=>bA_.f k l a) a (l.length≤1048576∧∀x∈l,szLE x):=by
 have hm:maxLen=9223372036854775807:=rfl
 unfold bA_.f
 by_cases hl:l.length≤1048576
 ·refine Szd.size _ (by omega) h0 h1 (fun a' e ha hb=>?_)
  rw[e]
  refine Szd.list l hl (fun k a i=>bA_.l0 k l a i) szLE ?_ ?_ a' ha hb
  ·intro a ha hb
   refine⟨a,Ev.succ ?_,Or.inr ⟨ha,Int.le_refl _,trivial⟩⟩
   simp only[bA_.l0]
   exact Ev.neg (by omega) (Ev.const rfl)
  ·intro p x t a e ha hb _ C hC
   have hm2:=bs_ e
   have hx:=h.2 x (cn_ e)
   have hel:Szd (fun k=>laws_szEntry.f k x.f0 x.f1 x.f2 x.f3 x.f4 x.f5 a) a (szLE x):=by
    unfold laws_szEntry.f
    refine(Szd.size x.f0.size (by have:=hx.1;omega) ha hb (fun r hr h2 h3=>?_))
    rw[hr]
    exact(Szd.bind (szRecordS_eq x.f3 hx.2.2.2.1 r h2 h3) h3 (fun q h4 h5=>Szd.end_ h4)).mono (fun h=>h.1)
   obtain⟨r,hr,hh⟩:=Szd.bind (g:=fun k t=>bA_.l0 k l t ((p.length:Int)+1)) hel hb (fun r h3 h4=>hC r h3 h4)
   refine⟨r,Ev.succ ?_,hh⟩
   simp only[bA_.l0,aH_,b6_ e]
   rw[w64 (i:=(p.length:Int)+1) (by omega) (by omega)]
   exact Ev.pos hm2.1 (Ev.pos (by omega) hr)
 ·have:=h.1
  refine⟨-1,Ev.pos ?_ (Ev.const rfl),Or.inl (by omega)⟩
  rw[w64 (by omega) (by omega)]
  omega
theorem szCache_eq (n:Int) (l:List be_) (h:l.length≤maxLen∧∀x∈l,WF_LEntry x) (a:Int) (h0:0≤a) (h1:a≤1048576):Szd (fun k=>laws_szCache.f k n l a) a (l.length≤1048576∧∀x∈l,szLE x):=by
 unfold laws_szCache.f
 exact(Szd.bind (szEntryS_eq l h a h0 h1) h1 (fun q h4 h5=>Szd.end_ h4)).mono (fun h=>h.1)
theorem toEntryS_eq (l:List be_) (hl:l.length≤1048576) (hs:∀x∈l,szLE x):Ev (fun k=>bz_.f k l) (l.map cEnt):=by
 unfold bz_.f
 refine Ev.pos (by omega) (Ev.pos (by omega) (to_list l cEnt (fun k s i=>bz_.l0 k l s i) ?_ ?_ _ (by simp)))
 ·intro s
  apply Ev.succ
  simp only[bz_.l0]
  exact Ev.neg (by omega) (Ev.const rfl)
 ·intro p x t s r e hp h
  have hm:=bs_ e
  have hx:=hs x (cn_ e)
  apply Ev.succ
  simp only[bz_.l0,aH_,b6_ e]
  rw[w64 (i:=(p.length:Int)+1) (by omega) (by omega)]
  have he:Ev (fun k=>laws_toEntry.f k x.f0 x.f1 x.f2 x.f3 x.f4 x.f5) (x.f0,x.f1,x.f2,x.f3.map cRec,x.f4,x.f5):=by
   unfold laws_toEntry.f
   exact Ev.bind' _ (toRecordS_eq x.f3 hx.2.1) (Ev.const rfl)
  exact Ev.pos hm.1 (Ev.pos (by omega) (Ev.bind' _ he (Ev.pos (by omega) h)))
theorem toCache_eq (n:Int) (l:List be_) (hl:l.length≤1048576) (hs:∀x∈l,szLE x):Ev (fun k=>laws_toCache.f k n l) (n,l.map cEnt):=by
 unfold laws_toCache.f
 exact Ev.bind' _ (toEntryS_eq l hl hs) (Ev.const rfl)
theorem eqEntryS_eq (l:List ad_) (hl:l.length≤1048576) (hs:∀x∈l,szE x):Ev (fun k=>a5_.f k l l) true:=by
 unfold a5_.f
 refine Ev.pos rfl (eq_list l (fun k i=>a5_.l0 k l l i) ?_ ?_)
 ·apply Ev.succ
  simp only[a5_.l0]
  exact Ev.neg (by omega) (Ev.const rfl)
 ·intro p x t e h
  have hm:=bs_ e
  have hx:=hs x (cn_ e)
  apply Ev.succ
  simp only[a5_.l0,a_,b6_ e]
  rw[w64 (i:=(p.length:Int)+1) (by omega) (by omega)]
  have he:Ev (fun k=>laws_eqEntry.f k x.f0 x.f1 x.f2 x.f3 x.f4 x.f5 x.f0 x.f1 x.f2 x.f3 x.f4 x.f5) true:=by
   unfold laws_eqEntry.f
   exact Ev.pos rfl (Ev.pos rfl (Ev.neg (by simp) (Ev.bind' _ (eqRecordS_eq x.f3 hx.2.1) (Ev.a3_ (Ev.pos rfl (Ev.pos rfl (Ev.const rfl)))))))
  exact Ev.pos hm.1 (Ev.pos (by omega) (Ev.pos hm.1 (Ev.bind' _ he (Ev.a3_ h))))
theorem eqCache_eq (n:Int) (l:List ad_) (hl:l.length≤1048576) (hs:∀x∈l,szE x):Ev (fun k=>cv_.f k n l n l) true:=by
 unfold cv_.f
 exact Ev.pos rfl (Ev.bind' _ (eqEntryS_eq l hl hs) (Ev.a3_ (Ev.const rfl)))
def hasI (l:List Int) (a:Int):Bool:=l.any (fun x=>decide (x=a))
def tyOk (a:Int):Bool:=hasI [1,2,5,6,15,16] a
theorem l1Has_eq (l:List Int) (a:Int) (hl:l.length≤1048576):Ev (fun k=>bW_.f k l a) (hasI l a):=by
 unfold bW_.f hasI
 refine Ev.eq_ (bD_ l (fun k (_:Unit) i=>bW_.l0 k a l (l.length:Int) i) (fun _ t=>t.any (fun x=>decide (x=a))) (fun _ _=>True) ?_ ?_ () trivial) rfl
 ·intro _ _
  apply Ev.succ
  simp only[bW_.l0]
  exact Ev.neg (by omega) (Ev.const rfl)
 ·intro p x t _ e _ ih
  have hm:=bs_ e
  apply Ev.succ
  simp only[bW_.l0,rd_mid' e]
  refine Ev.pos hm.1 (Ev.pos (by omega) (Ev.pos hm.1 ?_))
  rw[w64 (i:=(p.length:Int)+1) (by omega) (by omega)]
  by_cases hq:x=a
  ·exact Ev.pos hq (Ev.const (by simp[hq]))
  ·exact Ev.neg hq (Ev.eq_ (ih () trivial) (by simp[hq]))
theorem indexI_eq (l:List Int) (a:Int) (hl:l.length≤1048576):Ev (fun k=>bb_.f k l a) (idxP (fun x=>decide (x=a)) l):=by
 unfold bb_.f
 refine Ev.eq_ (bD_ l (fun k (_:Nat) i=>bb_.l0 k l a (l.length:Int) i) (fun n t=>if 0≤idxP (fun x=>decide (x=a)) t then(n:Int)+idxP (fun x=>decide (x=a)) t else -1) (fun p n=>n=p.length) ?_ ?_ 0 rfl) ?_
 ·intro n hn
  apply Ev.succ
  simp only[bb_.l0]
  exact Ev.neg (by omega) (Ev.const (by simp[idxP]))
 ·intro p x t n e hn ih
  have hm:=bs_ e
  apply Ev.succ
  simp only[bb_.l0,rd_mid' e]
  refine Ev.pos hm.1 (Ev.pos (by omega) (Ev.pos hm.1 ?_))
  have hq:idxP (fun x=>decide (x=a)) (x::t)=(if decide (x=a) then 0 else if 0≤idxP (fun x=>decide (x=a)) t then idxP (fun x=>decide (x=a)) t+1 else -1):=rfl
  rw[hq]
  by_cases hx:a=x
  ·exact Ev.pos hx (Ev.const (by simp[hn,hx]))
  ·refine Ev.neg hx ?_
   have hx2:¬x=a:=fun h=>hx h.symm
   rw[w64 (by omega) (by omega)]
   refine Ev.eq_ (ih (n+1) (by simp[hn])) ?_
   by_cases h2:0≤idxP (fun x=>decide (x=a)) t
   ·simp[h2,hx2];omega
   ·simp[h2,hx2]
 ·by_cases h2:0≤idxP (fun x=>decide (x=a)) l
  ·simp[h2]
  ·rw[if_neg h2]
   exact(idxP_neg _ l h2).symm
theorem isType_eq (a:Int):Ev (fun k=>impl_isType.f k a) (tyOk a):=by
 unfold impl_isType.f bZ_.f
 refine Ev.bind' _ (Ev.bind' _ (indexI_eq [1,2,5,6,15,16] a (by simp)) (Ev.const rfl)) (Ev.const ?_)
 rw[idxP_nonneg]
 rfl
theorem l3Type_eq (a:Int):Ev (fun k=>spec_l3Type.f k a) (tyOk a):=by
 unfold spec_l3Type.f
 exact Ev.bind' _ (l1Has_eq [1,2,5,6,15,16] a (by simp)) (Ev.const rfl)
theorem al_.idx (l0:List (ae_)) (a1_0:ByteArray) (a1_1:Int) (l1_2:List (ae_)) (q:(ae_)→Bool) (hl:l0.length≤1048576) (h:∀x∈l0,Ev (fun k=>impl_areOne_1.f (x.f0) (x.f1) (x.f2) (x.f3) a1_0 a1_1 l1_2) (q x)):Ev (fun k=>al_.f k l0 a1_0 a1_1 l1_2) (idxP q l0):=by
 unfold al_.f
 refine Ev.eq_ (bD_ l0 (fun k (_:Nat) i=>al_.l0 k l0 (l0.length:Int) i a1_0 a1_1 l1_2) (fun n t=>if 0≤idxP q t then(n:Int)+idxP q t else -1) (fun p n=>n=p.length) ?_ ?_ 0 rfl) ?_
 ·intro n hn
  apply Ev.succ
  simp only[al_.l0]
  exact Ev.neg (by omega) (Ev.const (by simp[idxP]))
 ·intro p x t n e hn ih
  have hm:=bs_ e
  have hx:=h x (cn_ e)
  apply Ev.succ
  simp only[al_.l0,aa_,b6_ e]
  refine Ev.pos hm.1 (Ev.pos (by omega) (Ev.pos hm.1 (Ev.bind' _ hx ?_)))
  have hq:idxP q (x::t)=(if q x then 0 else if 0≤idxP q t then idxP q t+1 else -1):=rfl
  rw[hq]
  cases q x with
  | true=>exact Ev.a3_ (Ev.const (by simp[hn]))
  | false =>
   refine Ev.a1_ ?_
   rw[w64 (by omega) (by omega)]
   refine Ev.eq_ (ih (n+1) (by simp[hn])) ?_
   by_cases h2:0≤idxP q t
   ·simp[h2];omega
   ·simp[h2]
 ·by_cases h2:0≤idxP q l0
  ·simp[h2]
  ·rw[if_neg h2]
   exact(idxP_neg q l0 h2).symm
theorem aN_.any (l0:List (ae_)) (a1_0:ByteArray) (a1_1:Int) (l1_2:List (ae_)) (q:(ae_)→Bool) (hl:l0.length≤1048576) (h:∀x∈l0,Ev (fun k=>impl_areOne_1.f (x.f0) (x.f1) (x.f2) (x.f3) a1_0 a1_1 l1_2) (q x)):Ev (fun k=>aN_.f k l0 a1_0 a1_1 l1_2) (l0.any q):=by
 unfold aN_.f
 refine Ev.bind' _ (al_.idx l0 a1_0 a1_1 l1_2 q hl h) (Ev.const ?_)
 rw[idxP_nonneg]
section
def headR (l:List ae_):ae_:=aa_ l 0
def likeH (l:List ae_) (r:ae_):Bool:=decide (bts r.f0=bts (headR l).f0)&&decide (r.f1=(headR l).f1)&&decide (r.f2=(headR l).f2)
def oneOk (l:List ae_) (name:ByteArray) (kind:Int):Bool:=inR l.length 1 12&&rises l&&l.all (fun r=>decide (bts r.f0=bts name)&&decide (r.f1=kind)&&decide (r.f2=(headR l).f2))
def lessE (a b:ad_):Bool:=decide (cmpN a.f0 b.f0<0∨cmpN a.f0 b.f0=0∧a.f1<b.f1)
def recsOk (e:ad_):Bool:=if e.f2=true then decide (e.f3.length=0) else oneOk e.f3 e.f0 e.f1
def entOk (now:Int) (e:ad_):Bool:=nameOk e.f0&&tyOk e.f1&&inR e.f4 (now+1) (now+100000)&&inR e.f5 1 now&&recsOk e
def afterE (p:Option ad_) (e:ad_):Bool:=match p with
 | none=>true
 | some a=>lessE a e
def entsOk (now:Int):Option ad_→List ad_→Bool
 | _,[]=>true
 | p,e::t=>entOk now e&&afterE p e&&entsOk now (some e) t
def goodC (now:Int) (l:List ad_):Bool:=inR now 1 1000000000&&decide (l.length≤20)&&entsOk now none l
theorem entsOk_cons (now:Int) (p:Option ad_) (e:ad_) (t:List ad_):entsOk now p (e::t)=(entOk now e&&afterE p e&&entsOk now (some e) t):=by cases p<;>rfl
theorem nameOk_all {s:ByteArray} (h:nameOk s=true):(labels s).all labelOk=true:=by
 unfold nameOk at h
 simp only[Bool.and_eq_true] at h
 exact h.2
theorem areOne_eq (l:List ae_) (name:ByteArray) (kind:Int) (hl:l.length≤1048576) (hs:∀r∈l,szR r):Ev (fun k=>impl_areOne.f k l name kind) (oneOk l name kind):=by
 unfold impl_areOne.f oneOk
 refine Ev.cbind _ (within_eq _ _ _) ?_
 cases hin:inR l.length 1 12 with
 | false=>exact Ev.a1_ (Ev.const (by simp))
 | true =>
  have hlo:1≤(l.length:Int):=(of_decide_eq_true hin).1
  refine Ev.a3_ (Ev.bind' _ (areRising_eq l hl hs) ?_)
  cases rises l with
  | false=>exact Ev.a1_ (Ev.const (by simp))
  | true =>
   refine Ev.a3_ (Ev.bind' _ (aN_.any l name kind l (fun r => !(decide (bts r.f0=bts name)&&decide (r.f1=kind)&&decide (r.f2=(headR l).f2))) hl (fun x hx=>Ev.const ?_)) (Ev.const ?_))
   ·unfold impl_areOne_1.f
    simp only[b4_]
    by_cases h1:bts x.f0=bts name
    ·rw[if_pos h1]
     by_cases h2:x.f1=kind
     ·rw[if_pos h2,if_pos (by omega)]
      simp only[h1,h2,decide_true,Bool.true_and,Option.some.injEq,bne,Bool.not_eq_eq_eq_not,Bool.not_not]
      rw[Bool.eq_iff_iff,beq_iff_eq,decide_eq_true_eq]
      rfl
     ·rw[if_neg h2];simp[h2]
    ·rw[if_neg h1];simp[h1]
   ·rw[any_not];simp
theorem l10Same_eq (l:List ae_) (hl:l.length≤1048576) (hs:∀r∈l,szR r):Ev (fun k=>aO_.f k l) (rises l&&l.all (likeH l)&&inR l.length 1 12):=by
 unfold aO_.f
 refine Ev.eq_ (bD_ l (fun k (_:List ae_) i=>aO_.l0 k l l (l.length:Int) i) (fun p t=>riseP p.getLast? t&&t.all (likeH l)&&inR l.length 1 12) (fun p q=>q=p∧∀r∈p,okR r=true) ?_ ?_ [] ⟨rfl,by simp⟩) rfl
 ·rintro q ⟨hq,_⟩
  apply Ev.succ
  simp only[aO_.l0]
  refine Ev.neg (by omega) (Ev.cbind _ (l1In_eq _ _ _) (Ev.const ?_))
  cases q.getLast?<;>simp[riseP,rises,riseFrom]
 ·rintro p x t q e ⟨hq,hp⟩ ih
  obtain rfl:=hq.symm
  have hm:=bs_ e
  have hx:=hs x (cn_ e)
  have hlast:(p++[x]).getLast? = some x:=by simp
  apply Ev.succ
  simp only[aO_.l0,aa_,b6_ e,b4_]
  have hh:l.getD (0:Int).toNat ch_=headR l:=rfl
  rw[hh]
  refine Ev.pos hm.1 (Ev.pos (by omega) (Ev.pos hm.1 (Ev.bind' (okR x) (specRec_eq _ _ _ _ hx.1 hx.2) ?_)))
  cases hk:okR x with
  | false =>
   refine Ev.a1_ (Ev.const ?_)
   cases p.getLast?<;>simp[riseP,rises,riseFrom,hk]
  | true =>
   refine Ev.a3_ (Ev.pos (by omega) ?_)
   have hgo:=ih (p++[x]) ⟨rfl,by intro r hr;rcases List.mem_append.mp hr with h|h;exact hp r h;simp only[List.mem_singleton] at h;rw[h];exact hk⟩
   rw[hlast] at hgo
   have hlk:likeH l x=(decide (bts x.f0=bts (headR l).f0)&&decide (x.f1=(headR l).f1)&&decide (x.f2=(headR l).f2)):=rfl
   rw[List.all_cons,hlk]
   by_cases h1:bts x.f0=bts (headR l).f0
   ·refine Ev.pos h1 ?_
    by_cases h2:x.f1=(headR l).f1
    ·refine Ev.pos h2 ?_
     by_cases h3:x.f2=(headR l).f2
     ·refine Ev.pos h3 ?_
      by_cases hp0:p=[]
      ·subst hp0
       refine Ev.neg (by simp) ?_
       rw[w64 (by simp) (by simp)]
       exact Ev.eq_ hgo (by simp[riseP,rises,hk,h1,h2,h3])
      ·have hpl:0<p.length:=List.length_pos_iff.mpr hp0
       rw[w64 (i:=(p.length:Int) - 1) (by omega) (by omega),w64 (i:=(p.length:Int)+1) (by omega) (by omega),getLast_mid e hp0]
       have hlm:p.getLast hp0∈l:=by rw[e];exact List.mem_append_left _ (List.getLast_mem hp0)
       refine Ev.pos (by omega) (Ev.pos (by omega) (Ev.pos (by omega) (Ev.bind' _ (specCmpRec_eq _ x (hs _ hlm) hx (hp _ (List.getLast_mem hp0)) hk) ?_)))
       rw[lastOpt_some hp0]
       by_cases hc:cmpRec (p.getLast hp0) x≥0
       ·refine Ev.pos hc (Ev.const ?_)
        have:¬cmpRec (p.getLast hp0) x<0:=by omega
        simp[riseP,riseFrom,this]
       ·refine Ev.neg hc (Ev.eq_ hgo ?_)
        have:cmpRec (p.getLast hp0) x<0:=by omega
        simp[riseP,riseFrom,this,hk,h1,h2,h3]
     ·exact Ev.neg h3 (Ev.const (by simp[h3]))
    ·exact Ev.neg h2 (Ev.const (by simp[h2]))
   ·exact Ev.neg h1 (Ev.const (by simp[h1]))
theorem like_one (l:List ae_) (name:ByteArray) (kind:Int) (h:0<l.length):(rises l&&l.all (likeH l)&&inR l.length 1 12&&decide (bts (headR l).f0=bts name)&&decide ((headR l).f1=kind))=oneOk l name kind:=by
 have hmem:headR l∈l:=by
  cases l with
  | nil=>simp at h
  | cons a t=>exact List.mem_cons_self
 unfold oneOk likeH
 rw[Bool.eq_iff_iff]
 simp only[Bool.and_eq_true,List.all_eq_true,decide_eq_true_eq]
 constructor
 ·rintro⟨⟨⟨⟨h1,h2⟩,h3⟩,h4⟩,h5⟩
  refine⟨⟨h3,h1⟩,fun r hr=>?_⟩
  obtain⟨⟨h6,h7⟩,h8⟩:=h2 r hr
  exact⟨⟨h6.trans h4,h7.trans h5⟩,h8⟩
 ·rintro⟨⟨h1,h2⟩,h3⟩
  obtain⟨⟨h4,h5⟩,_⟩:=h3 _ hmem
  refine⟨⟨⟨⟨h2,fun r hr=>?_⟩,h1⟩,h4⟩,h5⟩
  obtain⟨⟨h6,h7⟩,h8⟩:=h3 r hr
  exact⟨⟨h6.trans h4.symm,h7.trans h5.symm⟩,h8⟩
theorem l10Less_eq (a b:ad_) (ha:a.f0.size≤1048576) (hb:b.f0.size≤1048576) (ga:nameOk a.f0=true) (gb:nameOk b.f0=true):Ev (fun k=>spec_l10Less.f k a.f0 a.f1 a.f2 a.f3 a.f4 a.f5 b.f0 b.f1 b.f2 b.f3 b.f4 b.f5) (lessE a b):=by
 unfold spec_l10Less.f lessE
 refine Ev.bind' _ (specCompare_eq a.f0 b.f0 ha hb (nameOk_all ga) (nameOk_all gb)) ?_
 by_cases h1:cmpN a.f0 b.f0<0
 ·exact Ev.pos h1 (Ev.const (by simp[h1]))
 ·refine Ev.neg h1 ?_
  by_cases h2:cmpN a.f0 b.f0=0
  ·exact Ev.pos h2 (Ev.const (by simp[h2]))
  ·exact Ev.neg h2 (Ev.const (by simp[h1,h2]))
theorem compareEntry_eq (a b:ad_) (ha:a.f0.size≤1048576) (hb:b.f0.size≤1048576):∃r,Ev (fun k=>bk_.f k a.f0 a.f1 a.f2 a.f3 a.f4 a.f5 b.f0 b.f1) r∧decide (r<0)=lessE a b:=by
 refine⟨orI [cmpN a.f0 b.f0,cmpI a.f1 b.f1],?_,?_⟩
 ·unfold bk_.f
  exact Ev.bind' _ (compareNames_eq a.f0 b.f0 ha hb) (Ev.cbind _ (cmpInt_eq _ _) (Ev.bind' _ (cmpOr_eq _ (by simp)) (Ev.const rfl)))
 ·unfold lessE
  refine decide_eq_decide.mpr ?_
  simp only[orI]
  by_cases h1:cmpN a.f0 b.f0=0
  ·rw[if_pos h1]
   have hz:(if cmpI a.f1 b.f1=0 then 0 else cmpI a.f1 b.f1)=cmpI a.f1 b.f1:=by split<;>omega
   rw[hz]
   unfold cmpI
   by_cases h2:a.f1<b.f1
   ·rw[if_pos h2];omega
   ·rw[if_neg h2]
    split<;>omega
  ·rw[if_neg h1];omega
section
variable (now:Int) (l:List ad_)
theorem isEntry_eq (x:ad_) (hx:szE x) (h1:1≤now) (h2:now≤1000000000):Ev (fun k=>bl_.f k now l x.f0 x.f1 x.f2 x.f3 x.f4 x.f5) (entOk now x):=by
 unfold bl_.f entOk
 rw[w64 (i:=now+1) (by omega) (by omega),w64 (i:=now+100000) (by omega) (by omega)]
 have bad:Ev (fun k=>bl_.j0 k true x.f0 x.f1 x.f2 x.f3 x.f4 x.f5) false:=by
  apply Ev.succ
  simp only[bl_.j0]
  exact Ev.pos (by first|rfl|trivial) (Ev.const rfl)
 refine Ev.bind' _ (implGoodName_eq x.f0 hx.1) ?_
 cases nameOk x.f0 with
 | false=>exact Ev.a1_ (Ev.eq_ bad (by simp))
 | true =>
  refine Ev.a3_ (Ev.bind' _ (isType_eq x.f1) ?_)
  cases tyOk x.f1 with
  | false=>exact Ev.a1_ (Ev.eq_ bad (by simp))
  | true =>
   refine Ev.a3_ (Ev.cbind _ (within_eq _ _ _) ?_)
   cases inR x.f4 (now+1) (now+100000) with
   | false=>exact Ev.a1_ (Ev.eq_ bad (by simp))
   | true =>
    refine Ev.a3_ (Ev.cbind _ (within_eq _ _ _) ?_)
    cases inR x.f5 1 now with
    | false=>exact Ev.eq_ bad (by simp)
    | true =>
     apply Ev.succ
     simp only[bl_.j0]
     refine Ev.neg (by simp) ?_
     unfold recsOk
     cases x.f2 with
     | true=>exact Ev.a3_ (Ev.const (by rw[Option.some.injEq,Bool.eq_iff_iff];simp))
     | false=>exact Ev.a1_ (Ev.bind' _ (areOne_eq x.f3 x.f0 x.f1 hx.2.1 hx.2.2) (Ev.const (by simp)))
variable (hl:l.length≤1048576) (hs:∀x∈l,szE x)
include hl hs
theorem implGoodCache_eq:Ev (fun k=>aC_.f k now l) (goodC now l):=by
 unfold aC_.f goodC
 have bad:Ev (fun k=>aC_.j0 k true now l) false:=by
  apply Ev.succ
  simp only[aC_.j0]
  exact Ev.pos (by first|rfl|trivial) (Ev.const rfl)
 refine Ev.cbind _ (within_eq _ _ _) ?_
 cases hin:inR now 1 1000000000 with
 | false=>exact Ev.a1_ (Ev.eq_ bad (by simp))
 | true =>
  obtain⟨n1,n2⟩:1≤now∧now≤1000000000:=of_decide_eq_true hin
  refine Ev.a3_ ?_
  by_cases h20:l.length≤20
  ·have hd:decide ((l.length:Int) > 20)=false:=decide_eq_false (by omega)
   rw[hd,decide_eq_true h20]
   apply Ev.succ
   simp only[aC_.j0]
   refine Ev.neg (by simp) ?_
   refine Ev.eq_ (bD_ l (fun k (_:List ad_) i=>aC_.l0 k l (l.length:Int) i now l) (fun p t=>entsOk now p.getLast? t) (fun p q=>q=p) ?_ ?_ [] rfl) (by simp)
   ·intro q _
    apply Ev.succ
    simp only[aC_.l0]
    refine Ev.neg (by omega) (Ev.const ?_)
    cases q.getLast?<;>rfl
   ·intro p x t q e hq ih
    obtain rfl:=hq.symm
    have hm:=bs_ e
    have hx:=hs x (cn_ e)
    have hlast:(p++[x]).getLast? = some x:=by simp
    have hgo:=ih (p++[x]) rfl
    rw[hlast] at hgo
    apply Ev.succ
    simp only[aC_.l0,a_,b6_ e]
    refine Ev.pos hm.1 (Ev.pos (by omega) (Ev.pos hm.1 (Ev.bind' _ (isEntry_eq now l x hx n1 n2) ?_)))
    rw[entsOk_cons]
    cases entOk now x with
    | false=>exact Ev.a1_ (Ev.const (by simp))
    | true =>
     refine Ev.a3_ ?_
     by_cases hp0:p=[]
     ·subst hp0
      refine Ev.neg (by simp) ?_
      rw[w64 (by simp) (by simp)]
      exact Ev.eq_ hgo (by simp[afterE])
     ·have hpl:0<p.length:=List.length_pos_iff.mpr hp0
      rw[w64 (i:=(p.length:Int) - 1) (by omega) (by omega),w64 (i:=(p.length:Int)+1) (by omega) (by omega),getLast_mid e hp0]
      have hlm:p.getLast hp0∈l:=by rw[e];exact List.mem_append_left _ (List.getLast_mem hp0)
      obtain⟨r,hr,hr2⟩:=compareEntry_eq (p.getLast hp0) x (hs _ hlm).1 hx.1
      refine Ev.pos (by omega) (Ev.pos (by omega) (Ev.pos (by omega) (Ev.bind' _ hr ?_)))
      rw[lastOpt_some hp0]
      have ha:afterE (some (p.getLast hp0)) x=lessE (p.getLast hp0) x:=rfl
      rw[ha,←hr2]
      by_cases hc:r≥0
      ·refine Ev.pos hc (Ev.const ?_)
       have:¬r<0:=by omega
       simp[this]
      ·refine Ev.neg hc (Ev.eq_ hgo ?_)
       have:r<0:=by omega
       simp[this]
  ·have hd:decide ((l.length:Int) > 20)=true:=decide_eq_true (by omega)
   rw[hd,decide_eq_false h20]
   exact Ev.eq_ bad (by simp)
theorem specGoodCache_eq:Ev (fun k=>ai_.f k now l) (goodC now l):=by
 unfold ai_.f goodC
 have bad:Ev (fun k=>ai_.j0 k true now l) false:=by
  apply Ev.succ
  simp only[ai_.j0]
  exact Ev.pos (by first|rfl|trivial) (Ev.const rfl)
 refine Ev.cbind _ (l1In_eq _ _ _) ?_
 cases hin:inR now 1 1000000000 with
 | false=>exact Ev.a1_ (Ev.eq_ bad (by simp))
 | true =>
  obtain⟨n1,n2⟩:1≤now∧now≤1000000000:=of_decide_eq_true hin
  refine Ev.a3_ ?_
  by_cases h20:l.length≤20
  ·have hd:decide ((l.length:Int) > 20)=false:=decide_eq_false (by omega)
   rw[hd,decide_eq_true h20]
   apply Ev.succ
   simp only[ai_.j0]
   refine Ev.neg (by simp) ?_
   refine Ev.eq_ (bD_ l (fun k (_:List ad_) i=>ai_.l0 k l (l.length:Int) i now l) (fun p t=>entsOk now p.getLast? t) (fun p q=>q=p∧∀y∈p,nameOk y.f0=true) ?_ ?_ [] ⟨rfl,by simp⟩) (by simp)
   ·rintro q ⟨_,_⟩
    apply Ev.succ
    simp only[ai_.l0]
    refine Ev.neg (by omega) (Ev.const ?_)
    cases q.getLast?<;>rfl
   ·rintro p x t q e ⟨hq,hn⟩ ih
    obtain rfl:=hq.symm
    have hm:=bs_ e
    have hx:=hs x (cn_ e)
    have hlast:(p++[x]).getLast? = some x:=by simp
    have j2b:Ev (fun k=>ai_.j2 k l (l.length:Int) (p.length:Int) true now l x.f0 x.f1 x.f2 x.f3 x.f4 x.f5) false:=by
     apply Ev.succ
     simp only[ai_.j2]
     exact Ev.pos (by first|rfl|trivial) (Ev.const rfl)
    apply Ev.succ
    simp only[ai_.l0,a_,b6_ e]
    rw[w64 (i:=now+1) (by omega) (by omega),w64 (i:=now+100000) (by omega) (by omega)]
    refine Ev.pos hm.1 (Ev.pos (by omega) (Ev.pos hm.1 (Ev.bind' _ (specGoodName_eq x.f0 hx.1) ?_)))
    have hE:entOk now x=(nameOk x.f0&&tyOk x.f1&&inR x.f4 (now+1) (now+100000)&&inR x.f5 1 now&&recsOk x):=rfl
    rw[entsOk_cons,hE]
    cases hnx:nameOk x.f0 with
    | false=>exact Ev.a1_ (Ev.eq_ j2b (by simp))
    | true =>
     have hgo:=ih (p++[x]) ⟨rfl,by intro r hr;rcases List.mem_append.mp hr with h|h;exact hn r h;simp only[List.mem_singleton] at h;rw[h];exact hnx⟩
     rw[hlast] at hgo
     refine Ev.a3_ (Ev.bind' _ (l3Type_eq x.f1) ?_)
     cases tyOk x.f1 with
     | false=>exact Ev.a1_ (Ev.eq_ j2b (by simp))
     | true =>
      refine Ev.a3_ (Ev.cbind _ (l1In_eq _ _ _) ?_)
      cases inR x.f4 (now+1) (now+100000) with
      | false=>exact Ev.a1_ (Ev.eq_ j2b (by simp))
      | true =>
       refine Ev.a3_ (Ev.cbind _ (l1In_eq _ _ _) ?_)
       cases inR x.f5 1 now with
       | false=>exact Ev.a1_ (Ev.eq_ j2b (by simp))
       | true =>
        refine Ev.a3_ ?_
        have j2g:Ev (fun k=>ai_.j2 k l (l.length:Int) (p.length:Int) false now l x.f0 x.f1 x.f2 x.f3 x.f4 x.f5) (recsOk x&&entsOk now (some x) t):=by
         apply Ev.succ
         simp only[ai_.j2,b4_]
         rw[w64 (i:=(p.length:Int)+1) (by omega) (by omega)]
         refine Ev.neg (by simp) ?_
         unfold recsOk
         cases x.f2 with
         | true =>
          refine Ev.a3_ ?_
          by_cases h0:x.f3.length=0
          ·refine Ev.neg (by omega) (Ev.eq_ hgo ?_)
           simp[h0]
          ·refine Ev.pos (by omega) (Ev.const ?_)
           simp[h0]
         | false =>
          refine Ev.a1_ (Ev.bind' _ (l10Same_eq x.f3 hx.2.1 hx.2.2) ?_)
          rw[if_neg (by simp)]
          by_cases hz:0<x.f3.length
          ·rw[←like_one x.f3 x.f0 x.f1 hz]
           cases(rises x.f3&&x.f3.all (likeH x.f3)&&inR x.f3.length 1 12) with
           | false=>exact Ev.a1_ (Ev.const (by simp))
           | true =>
            refine Ev.a3_ (Ev.pos (by omega) ?_)
            have hh:aa_ x.f3 0=headR x.f3:=rfl
            rw[hh]
            by_cases h1:bts (headR x.f3).f0=bts x.f0
            ·refine Ev.pos h1 ?_
             by_cases h2:(headR x.f3).f1=x.f1
             ·exact Ev.pos h2 (Ev.eq_ hgo (by simp[h1,h2]))
             ·exact Ev.neg h2 (Ev.const (by simp[h2]))
            ·exact Ev.neg h1 (Ev.const (by simp[h1]))
          ·have h1:inR x.f3.length 1 12=false:=decide_eq_false (by omega)
           have h2:oneOk x.f3 x.f0 x.f1=false:=by unfold oneOk;rw[h1];simp
           rw[h1,h2,Bool.and_false]
           exact Ev.a1_ (Ev.const (by simp))
        by_cases hp0:p=[]
        ·subst hp0
         refine Ev.neg (by simp) (Ev.eq_ j2g ?_)
         simp[afterE]
        ·have hpl:0<p.length:=List.length_pos_iff.mpr hp0
         rw[w64 (i:=(p.length:Int) - 1) (by omega) (by omega),getLast_mid e hp0]
         have hlm:p.getLast hp0∈l:=by rw[e];exact List.mem_append_left _ (List.getLast_mem hp0)
         refine Ev.pos (by omega) (Ev.pos (by omega) (Ev.pos (by omega) (Ev.bind' _ (l10Less_eq (p.getLast hp0) x (hs _ hlm).1 hx.1 (hn _ (List.getLast_mem hp0)) hnx) ?_)))
         rw[lastOpt_some hp0]
         have ha:afterE (some (p.getLast hp0)) x=lessE (p.getLast hp0) x:=rfl
         rw[ha]
         cases lessE (p.getLast hp0) x with
         | false=>exact Ev.eq_ j2b (by simp)
         | true=>exact Ev.eq_ j2g (by simp)
  ·have hd:decide ((l.length:Int) > 20)=true:=decide_eq_true (by omega)
   rw[hd,decide_eq_false h20]
   exact Ev.eq_ bad (by simp)
end
end
theorem ownEntS_eq (x:ad_) (h:x.f3.length≤1048576):spec_l10OwnEntry.f x.f0 x.f1 x.f2 x.f3 x.f4 x.f5=some (x.f0,x.f1,x.f2,x.f3,x.f4,x.f5):=by
 unfold spec_l10OwnEntry.f
 simp only[Option.bind_some,List.nil_append,List.length_nil]
 rw[if_pos (by omega)]
theorem ownEntI_eq (x:ad_) (h:x.f3.length≤1048576):impl_ownEntry.f x.f0 x.f1 x.f2 x.f3 x.f4 x.f5=some (x.f0,x.f1,x.f2,x.f3,x.f4,x.f5):=by
 unfold impl_ownEntry.f bC_.f
 simp only[Option.bind_some,List.nil_append,List.length_nil]
 rw[if_pos (by omega)]
 rfl
theorem l10Own_eq (now:Int) (l:List ad_) (hl:l.length≤1048576) (hs:∀x∈l,szE x):Ev (fun k=>bT_.f k now l) (now,l):=by
 unfold bT_.f
 refine Ev.eq_ (bD_ l (fun k (s:List ad_) i=>bT_.l0 k s l (l.length:Int) i now l) (fun s t=>(now,s++t)) (fun p s=>s=p) ?_ ?_ [] rfl) rfl
 ·intro s _
  apply Ev.succ
  simp only[bT_.l0]
  exact Ev.neg (by omega) (Ev.const (by simp))
 ·intro p x t s e hsp ih
  obtain rfl:=hsp.symm
  have hm:=bs_ e
  have hx:=hs x (cn_ e)
  apply Ev.succ
  simp only[bT_.l0,a_,b6_ e]
  refine Ev.pos hm.1 (Ev.pos (by omega) (Ev.pos hm.1 (Ev.cbind _ (ownEntS_eq x hx.2.1) (Ev.pos (by omega) ?_))))
  rw[w64 (i:=(p.length:Int)+1) (by omega) (by omega)]
  exact Ev.eq_ (ih (p++[x]) rfl) (by simp)
theorem implOwn_eq (now:Int) (l:List ad_) (hl:l.length≤1048576) (hs:∀x∈l,szE x):Ev (fun k=>bc_.f k now l) (now,l):=by
 unfold bc_.f
 refine Ev.eq_ (bD_ l (fun k (s:List ad_) i=>bc_.l0 k l (l.length:Int) i now s) (fun s t=>(now,s++t)) (fun p s=>s=p) ?_ ?_ [] rfl) rfl
 ·intro s _
  apply Ev.succ
  simp only[bc_.l0]
  exact Ev.neg (by omega) (Ev.const (by simp))
 ·intro p x t s e hsp ih
  obtain rfl:=hsp.symm
  have hm:=bs_ e
  have hx:=hs x (cn_ e)
  apply Ev.succ
  simp only[bc_.l0,a_,b6_ e]
  refine Ev.pos hm.1 (Ev.pos (by omega) (Ev.pos hm.1 (Ev.cbind _ (ownEntI_eq x hx.2.1) (Ev.pos (by omega) ?_))))
  rw[w64 (i:=(p.length:Int)+1) (by omega) (by omega)]
  exact Ev.eq_ (ih (p++[x]) rfl) (by simp)
theorem am_.idx (l0:List (ad_)) (a1_0:Int) (l1_1:List (ad_)) (q:(ad_)→Bool) (hl:l0.length≤1048576) (h:∀x∈l0,Ev (fun k=>bO_.f (x.f0) (x.f1) (x.f2) (x.f3) (x.f4) (x.f5) a1_0 l1_1) (q x)):Ev (fun k=>am_.f k l0 a1_0 l1_1) (idxP q l0):=by
 unfold am_.f
 refine Ev.eq_ (bD_ l0 (fun k (_:Nat) i=>am_.l0 k l0 (l0.length:Int) i a1_0 l1_1) (fun n t=>if 0≤idxP q t then(n:Int)+idxP q t else -1) (fun p n=>n=p.length) ?_ ?_ 0 rfl) ?_
 ·intro n hn
  apply Ev.succ
  simp only[am_.l0]
  exact Ev.neg (by omega) (Ev.const (by simp[idxP]))
 ·intro p x t n e hn ih
  have hm:=bs_ e
  have hx:=h x (cn_ e)
  apply Ev.succ
  simp only[am_.l0,a_,b6_ e]
  refine Ev.pos hm.1 (Ev.pos (by omega) (Ev.pos hm.1 (Ev.bind' _ hx ?_)))
  have hq:idxP q (x::t)=(if q x then 0 else if 0≤idxP q t then idxP q t+1 else -1):=rfl
  rw[hq]
  cases q x with
  | true=>exact Ev.a3_ (Ev.const (by simp[hn]))
  | false =>
   refine Ev.a1_ ?_
   rw[w64 (by omega) (by omega)]
   refine Ev.eq_ (ih (n+1) (by simp[hn])) ?_
   by_cases h2:0≤idxP q t
   ·simp[h2];omega
   ·simp[h2]
 ·by_cases h2:0≤idxP q l0
  ·simp[h2]
  ·rw[if_neg h2]
   exact(idxP_neg q l0 h2).symm
section
theorem pass1_eq (x:ad_) (n:Int) (l1:List ad_):bO_.f x.f0 x.f1 x.f2 x.f3 x.f4 x.f5 n l1=some (decide (x.f4≤n)):=by
 unfold bO_.f
 rfl
theorem delP_loop (n:Int) (q:ad_→Bool) (hq:∀x l1,bO_.f x.f0 x.f1 x.f2 x.f3 x.f4 x.f5 n l1=some (q x)):∀(t a m:List ad_),m≠[]→(a++m++t).length≤1048576 →
  Ev (fun k=>ao_.l0 k (a++m++t) (a.length:Int) ((a.length:Int)+(m.length:Int)) n) (a++t.filter (fun x => !q x)):=by
 intro t
 induction t with
 | nil =>
  intro a m hm hl
  have h0:0<m.length:=List.length_pos_iff.mpr hm
  apply Ev.succ
  simp only[ao_.l0]
  have hlen:((a++m++([]:List ad_)).length:Int)=(a.length:Int)+(m.length:Int):=by simp
  refine Ev.neg (by omega) (Ev.pos ⟨by omega,by omega⟩ (Ev.const ?_))
  simp
 | cons x t ih =>
  intro a m hm hl
  have h0:0<m.length:=List.length_pos_iff.mpr hm
  have hlen:((a++m++x::t).length:Int)=(a.length:Int)+(m.length:Int)+(t.length:Int)+1:=by simp<;>omega
  have hg:(a++m++x::t).getD ((a.length:Int)+(m.length:Int)).toNat bS_=x:=by
   have e:((a.length:Int)+(m.length:Int)).toNat=(a++m).length:=by rw[List.length_append];omega
   rw[e,List.getD_eq_getElem?_getD,List.getElem?_append_right (by omega)]
   simp
  have hf:=hq x (a++m++x::t)
  apply Ev.succ
  simp only[ao_.l0,a_,hg]
  refine Ev.pos (by omega) (Ev.pos ⟨by omega,by omega⟩ (Ev.cbind _ hf ?_))
  have hl2:((a++m++x::t).length:Int)≤1048576:=by omega
  rw[w64 (i:=(a.length:Int)+(m.length:Int)+1) (by omega) (by omega)]
  cases hc:q x with
  | true =>
   refine Ev.a3_ ?_
   have e1:a++m++x::t=a++(m++[x])++t:=by simp
   have e2:(a.length:Int)+(m.length:Int)+1=(a.length:Int)+((m++[x]).length:Int):=by simp<;>omega
   rw[e1,e2]
   refine Ev.eq_ (ih a (m++[x]) (by simp) (by rw[←e1];exact hl)) ?_
   simp[hc]
  | false =>
   refine Ev.a1_ ?_
   obtain⟨y,m',rfl⟩:=List.exists_cons_of_ne_nil hm
   rw[w64 (i:=(a.length:Int)+1) (by omega) (by omega)]
   have e1:(a++(y::m')++x::t).set (a.length:Int).toNat x=(a++[x])++(m'++[x])++t:=by
    have e0:((a.length:Int)).toNat=a.length:=by omega
    rw[e0,List.append_assoc,List.set_append_right _ _ (Nat.le_refl _),Nat.sub_self]
    simp
   have e2:(a.length:Int)+((y::m').length:Int)+1=((a++[x]).length:Int)+((m'++[x]).length:Int):=by simp<;>omega
   have e3:(a.length:Int)+1=((a++[x]).length:Int):=by simp
   have e4:((a++[x])++(m'++[x])++t).length=(a++(y::m')++x::t).length:=by simp<;>omega
   rw[e1,e2,e3]
   refine Ev.eq_ (ih (a++[x]) (m'++[x]) (by simp) (by rw[e4];exact hl)) ?_
   simp[hc]
theorem idxP_split {α:Type} (q:α→Bool):∀l:List α,(idxP q l = -1∧∀x∈l,q x=false)∨∃a x t,l=a++x::t∧(∀y∈a,q y=false)∧q x=true∧idxP q l=(a.length:Int):=by
 intro l
 induction l with
 | nil=>exact Or.inl ⟨rfl,by simp⟩
 | cons x t ih =>
  have hq:idxP q (x::t)=(if q x then 0 else if 0≤idxP q t then idxP q t+1 else -1):=rfl
  cases hx:q x with
  | true=>exact Or.inr ⟨[],x,t,rfl,by simp,hx,by rw[hq,hx];rfl⟩
  | false =>
   rcases ih with ⟨h1,h2⟩|⟨a,y,s,h1,h2,h3,h4⟩
   ·refine Or.inl ⟨by rw[hq,hx,h1];rfl,?_⟩
    intro z hz
    rcases List.mem_cons.1 hz with rfl|hz
    ·exact hx
    ·exact h2 z hz
   ·refine Or.inr ⟨x::a,y,s,by rw[h1];rfl,?_,h3,?_⟩
    ·intro z hz
     rcases List.mem_cons.1 hz with rfl|hz
     ·exact hx
     ·exact h2 z hz
    ·rw[hq,hx,h4]
     have:(0:Int)≤(a.length:Int):=by omega
     simp only[this,if_true,Bool.false_eq_true,if_false,List.length_cons]
     omega
theorem delP_eq (l:List ad_) (n:Int) (l1:List ad_) (hl:l.length≤1048576) :
  Ev (fun k=>ao_.f k l n l1) (l.filter (fun x => !decide (x.f4≤n))):=by
 have hq:∀(x:ad_) (l1:List ad_),bO_.f x.f0 x.f1 x.f2 x.f3 x.f4 x.f5 n l1=some (decide (x.f4≤n)):=fun x l1=>pass1_eq x n l1
 unfold ao_.f
 refine Ev.bind' _ (am_.idx l n l (fun x=>decide (x.f4≤n)) hl (fun x hx=>Ev.const (hq x l))) ?_
 rcases idxP_split (fun x:ad_=>decide (x.f4≤n)) l with ⟨h1,h2⟩|⟨a,x,t,h1,h2,h3,h4⟩
 ·rw[h1]
  refine Ev.pos rfl (Ev.const ?_)
  rw[Option.some.injEq]
  exact(List.filter_eq_self.2 (fun x hx=>by rw[h2 x hx];rfl)).symm
 ·have hlen:(l.length:Int)=(a.length:Int)+(t.length:Int)+1:=by rw[h1];simp;omega
  have hl2:(l.length:Int)≤1048576:=by omega
  rw[h4]
  refine Ev.neg (by omega) (Ev.pos ⟨by omega,by omega⟩ ?_)
  rw[w64 (i:=(a.length:Int)+1) (by omega) (by omega)]
  have e1:l=a++[x]++t:=by rw[h1];simp
  have hgo:=delP_loop n (fun x=>decide (x.f4≤n)) hq t a [x] (by simp) (by rw[←e1];exact hl)
  rw[←e1] at hgo
  refine Ev.eq_ hgo ?_
  have ea:a.filter (fun x => !decide (x.f4≤n))=a:=List.filter_eq_self.2 (fun x hx=>by rw[h2 x hx];rfl)
  rw[h1,List.filter_append,ea]
  simp[h3]
def leftR (m:Int) (l:List ad_):List ad_:=l.filter (fun x => !decide (x.f4≤m))
def passR (now:Int) (l:List ad_) (n:Int):Int × List ad_ × Int × Bool :=
 if goodC now l=true∧inR n 1 100000=true∧¬wrap64 (now+n) > 1000000000 then(wrap64 (now+n),leftR (wrap64 (now+n)) l,wrap64 ((l.length:Int) - ((leftR (wrap64 (now+n)) l).length:Int)),true) else(0,[],0,false)
variable (now:Int) (l:List ad_) (n:Int) (hl:l.length≤1048576) (hs:∀x∈l,szE x)
include hl hs
theorem implPass_eq:Ev (fun k=>ag_.f k now l n) (passR now l n):=by
 unfold ag_.f passR
 refine Ev.bind' _ (implGoodCache_eq now l hl hs) ?_
 by_cases h1:goodC now l=true
 ·refine Ev.pos h1 (Ev.cbind _ (within_eq _ _ _) ?_)
  by_cases h2:inR n 1 100000=true
  ·refine Ev.pos h2 ?_
   by_cases h3:wrap64 (now+n) > 1000000000
   ·exact Ev.pos h3 (Ev.const (by rw[if_neg (fun h=>h.2.2 h3)]))
   ·refine Ev.neg h3 (Ev.bind' _ (implOwn_eq now l hl hs) (Ev.bind' _ (delP_eq l (wrap64 (now+n)) l hl) (Ev.const ?_)))
    rw[if_pos ⟨h1,h2,h3⟩]
    rfl
  ·exact Ev.neg h2 (Ev.const (by rw[if_neg (fun h=>h2 h.2.1)]))
 ·exact Ev.neg h1 (Ev.const (by rw[if_neg (fun h=>h1 h.1)]))
omit hs in
theorem specPassLoop (m:Int):Ev (fun k=>aZ_.l0 k [] l (l.length:Int) 0 m l) (m,leftR m l,wrap64 ((l.length:Int) - ((leftR m l).length:Int)),true):=by
 unfold leftR
 refine Ev.eq_ (bD_ l (fun k (s:List ad_) i=>aZ_.l0 k s l (l.length:Int) i m l) (fun s t=>(m,s++t.filter (fun x => !decide (x.f4≤m)),wrap64 ((l.length:Int) - ((s++t.filter (fun x => !decide (x.f4≤m))).length:Int)),true)) (fun p s=>s.length≤p.length) ?_ ?_ [] (by simp)) (by simp)
 ·intro s _
  apply Ev.succ
  simp only[aZ_.l0]
  exact Ev.neg (by omega) (Ev.const (by simp))
 ·intro p x t s e hsl ih
  have hm:=bs_ e
  apply Ev.succ
  simp only[aZ_.l0,a_,b6_ e]
  refine Ev.pos hm.1 (Ev.pos (by omega) (Ev.pos hm.1 ?_))
  rw[w64 (i:=(p.length:Int)+1) (by omega) (by omega)]
  by_cases hb:x.f4 > m
  ·have hb2:¬x.f4≤m:=by omega
   refine Ev.pos hb (Ev.pos (by omega) (Ev.eq_ (ih (s++[x]) (by simp;omega)) ?_))
   simp[hb2]
  ·have hb2:x.f4≤m:=by omega
   refine Ev.neg hb (Ev.eq_ (ih s (by rw[List.length_append];omega)) ?_)
   simp[hb2]
theorem specPass_eq:Ev (fun k=>aZ_.f k now l n) (passR now l n):=by
 unfold aZ_.f passR
 have bad:Ev (fun k=>aZ_.j0 k n true now l) (0,[],0,false):=by
  apply Ev.succ
  simp only[aZ_.j0]
  exact Ev.pos (by first|rfl|trivial) (Ev.const rfl)
 refine Ev.bind' _ (specGoodCache_eq now l hl hs) ?_
 by_cases h1:goodC now l=true
 ·refine Ev.pos h1 (Ev.cbind _ (l1In_eq _ _ _) ?_)
  by_cases h2:inR n 1 100000=true
  ·refine Ev.pos h2 ?_
   by_cases h3:wrap64 (now+n) > 1000000000
   ·rw[decide_eq_true h3,if_neg (fun h=>h.2.2 h3)]
    exact bad
   ·rw[decide_eq_false h3,if_pos ⟨h1,h2,h3⟩]
    apply Ev.succ
    simp only[aZ_.j0]
    exact Ev.neg (by simp) (Ev.bind' _ (l10Own_eq now l hl hs) (specPassLoop l hl (wrap64 (now+n))))
  ·rw[if_neg (fun h=>h2 h.2.1)]
   exact Ev.neg h2 bad
 ·rw[if_neg (fun h=>h1 h.1)]
  exact Ev.neg h1 bad
omit hl hs in
theorem passR_small (hl:l.length≤1048576) (hs:∀x∈l,szE x):(passR now l n).2.1.length≤1048576∧∀x∈(passR now l n).2.1,szE x:=by
 unfold passR
 have h1:(leftR (wrap64 (now+n)) l).length≤l.length:=List.length_filter_le _ _
 by_cases h:goodC now l=true∧inR n 1 100000=true∧¬wrap64 (now+n) > 1000000000
 ·rw[if_pos h]
  refine⟨?_,fun x hx=>?_⟩
  ·show(leftR (wrap64 (now+n)) l).length≤1048576
   omega
  ·exact hs x ((List.mem_filter.1 hx).1)
 ·rw[if_neg h]
  exact⟨by simp,by simp⟩
end
theorem strOfNums_one (x:Int):(strOfNums [x]).size=1:=rfl
theorem markText_eq (a:Int) (h0:0≤a) (h1:a≤4611686018427387904):∃s,Ev (fun k=>aI_.f k a) s:=by
 have main:∀(n:Nat) (a:Int) (x:ByteArray),a.toNat≤n→0≤a→a≤4611686018427387904→x.size+a.toNat≤4611686018427388904→∃s,Ev (fun k=>aI_.l0 k a x) s:=by
  intro n
  induction n with
  | zero =>
   intro a x hn h0 h1 hx
   refine⟨(⟨#[109]⟩:ByteArray)++x,Ev.succ ?_⟩
   simp only[aI_.l0]
   exact Ev.neg (by omega) (Ev.pos (by omega) (Ev.const rfl))
  | succ n ih =>
   intro a x hn h0 h1 hx
   by_cases hp:a > 0
   ·have hd:Int.tdiv a 10=a / 10:=Int.tdiv_eq_ediv_of_nonneg h0
    have hd2:a / 10<a:=by omega
    have hd3:0≤a / 10:=by omega
    have hsz:(strOfNums [(wrap64 (48+Int.tmod a 10)) % 256]++x).size=1+x.size:=by rw[ByteArray.size_append,strOfNums_one]
    obtain⟨s,hs⟩:=ih (a / 10) (strOfNums [(wrap64 (48+Int.tmod a 10)) % 256]++x) (by omega) hd3 (by omega) (by rw[hsz];omega)
    refine⟨s,Ev.succ ?_⟩
    simp only[aI_.l0]
    refine Ev.pos hp (Ev.cbind _ rfl (Ev.pos (by rw[strOfNums_one];omega) ?_))
    rw[hd,w64 (by omega) (by omega)]
    exact hs
   ·refine⟨(⟨#[109]⟩:ByteArray)++x,Ev.succ ?_⟩
    simp only[aI_.l0]
    exact Ev.neg hp (Ev.pos (by omega) (Ev.const rfl))
 by_cases h:a≤0
 ·refine⟨⟨#[109,48]⟩,?_⟩
  unfold aI_.f
  exact Ev.pos h (Ev.const rfl)
 ·obtain⟨s,hs⟩:=main a.toNat a ⟨#[]⟩ (Nat.le_refl _) h0 h1 (by have:(⟨#[]⟩:ByteArray).size=0:=rfl;omega)
  refine⟨s,?_⟩
  unfold aI_.f
  exact Ev.neg h hs
theorem markRecordS_eqM (l:List ae_) (hl:l.length≤1048576) (a:Int) (ha:0≤a) (hb:a≤4611686018000000000):∃r l',Ev (fun k=>bg_.f k l a) (r,l')∧Ev (fun k=>au_.f k l' a) r∧l'.length=l.length∧a≤r∧r≤a+4 * l.length:=by
 unfold bg_.f au_.f
 refine mark_list 4 (by omega) (fun k l a i=>bg_.l0 k l a i) (fun k l a i=>au_.l0 k l a i) 4611686018427380000 ?_ ?_ ?_ l hl a ha (by omega)
 ·intro l a
  apply Ev.succ
  simp only[bg_.l0]
  exact Ev.neg (by omega) (Ev.const rfl)
 ·intro l a
  apply Ev.succ
  simp only[au_.l0]
  exact Ev.neg (by omega) (Ev.const rfl)
 ·intro p x t a hp ha hb
  obtain⟨s,hs⟩:=markText_eq a ha (by omega)
  obtain⟨s2,hs2⟩:=markText_eq (a+1+1+1) (by omega) (by omega)
  refine⟨⟨s,a+1,a+1+1,s2⟩,a+4,by omega,by omega,?_,?_⟩
  ·intro r h
   have hm:=bs_ (l:=p++x::t) rfl
   have e4:a+1+1+1+1=a+4:=by omega
   apply Ev.succ
   simp only[bg_.l0]
   rw[w64 (i:=(p.length:Int)+1) (by omega) (by omega),w64 (i:=a+1) (by omega) (by omega),w64 (i:=a+1+1) (by omega) (by omega),w64 (i:=a+1+1+1) (by omega) (by omega),w64 (i:=a+1+1+1+1) (by omega) (by omega)]
   refine Ev.pos hm.1 (Ev.bind' _ hs (Ev.pos (by omega) (Ev.cbind _ rfl (Ev.cbind _ rfl (Ev.cbind _ rfl (Ev.bind' _ hs2 ?_))))))
   simp only[aa_,set_mid,List.append_assoc,List.cons_append,List.nil_append,b6_ rfl]
   rw[e4]
   exact h
  ·intro q r hq h
   have hm:=bs_ (l:=p++(⟨s,a+1,a+1+1,s2⟩:ae_)::q) rfl
   have e4:a+1+1+1+1=a+4:=by omega
   apply Ev.succ
   simp only[au_.l0,aa_,b6_ rfl]
   rw[w64 (i:=(p.length:Int)+1) (by omega) (by omega),w64 (i:=a+1) (by omega) (by omega),w64 (i:=a+1+1) (by omega) (by omega),w64 (i:=a+1+1+1) (by omega) (by omega),w64 (i:=a+1+1+1+1) (by omega) (by omega),e4]
   exact Ev.pos hm.1 (Ev.pos (by omega) (Ev.bind' _ hs (Ev.pos (by trivial) (Ev.pos (by trivial) (Ev.pos (by trivial) (Ev.bind' _ hs2 (Ev.pos (by trivial) h)))))))
theorem markEntryS_eq (l:List ad_) (hl:l.length≤1048576) (hs:∀x∈l,x.f3.length≤1048576) (a:Int) (ha:0≤a) (hb:a≤1073741824):∃r l',Ev (fun k=>aF_.f k l a) (r,l')∧Ev (fun k=>aG_.f k l' a) r∧l'.length=l.length∧a≤r:=by
 unfold aF_.f aG_.f
 suffices h:∃r l',Ev (fun k=>aF_.l0 k l a 0) (r,l')∧Ev (fun k=>aG_.l0 k l' a 0) r∧l'.length=l.length∧a≤r∧r≤a+4194309 * l.length by
  obtain⟨r,l',h1,h2,h3,h4,_⟩:=h
  exact⟨r,l',h1,h2,h3,h4⟩
 refine mark_listQ (fun x:ad_=>x.f3.length≤1048576) 4194309 (by omega) (fun k l a i=>aF_.l0 k l a i) (fun k l a i=>aG_.l0 k l a i) 4611686017000000000 ?_ ?_ ?_ l hs hl a ha (by omega)
 ·intro l a
  apply Ev.succ
  simp only[aF_.l0]
  exact Ev.neg (by omega) (Ev.const rfl)
 ·intro l a
  apply Ev.succ
  simp only[aG_.l0]
  exact Ev.neg (by omega) (Ev.const rfl)
 ·intro p x t a hx hp ha hb
  obtain⟨s,hs⟩:=markText_eq a ha (by omega)
  obtain⟨b,m,m1,m2,m3,m4,m5⟩:=markRecordS_eqM x.f3 hx (a+1+1+1) (by omega) (by omega)
  refine⟨⟨s,a+1,(Int.tmod (a+1+1) 3)==0,m,b,b+1⟩,b+1+1,by omega,by omega,?_,?_⟩
  ·intro r h
   have hm:=bs_ (l:=p++x::t) rfl
   apply Ev.succ
   simp only[aF_.l0,a_,b6_ rfl]
   rw[w64 (i:=(p.length:Int)+1) (by omega) (by omega),w64 (i:=a+1) (by omega) (by omega),w64 (i:=a+1+1) (by omega) (by omega),w64 (i:=a+1+1+1) (by omega) (by omega)]
   refine Ev.pos hm.1 (Ev.pos (by omega) (Ev.bind' _ hs (Ev.bind' _ m1 ?_)))
   simp only[set_mid,List.append_assoc,List.cons_append,List.nil_append]
   rw[w64 (i:=b+1) (by omega) (by omega),w64 (i:=b+1+1) (by omega) (by omega)]
   exact h
  ·intro q r hq h
   have hm:=bs_ (l:=p++(⟨s,a+1,(Int.tmod (a+1+1) 3)==0,m,b,b+1⟩:ad_)::q) rfl
   apply Ev.succ
   simp only[aG_.l0,a_,b6_ rfl]
   rw[w64 (i:=(p.length:Int)+1) (by omega) (by omega),w64 (i:=a+1) (by omega) (by omega),w64 (i:=a+1+1) (by omega) (by omega),w64 (i:=a+1+1+1) (by omega) (by omega)]
   refine Ev.pos hm.1 (Ev.pos (by omega) (Ev.bind' _ hs (Ev.pos (by trivial) (Ev.pos (by trivial) (Ev.neg (by simp) (Ev.bind' _ m2 (Ev.neg (by omega) (Ev.pos (by trivial) ?_))))))))
   rw[w64 (i:=b+1) (by omega) (by omega),w64 (i:=b+1+1) (by omega) (by omega)]
   exact Ev.pos (by trivial) h
theorem markCache_eq (n:Int) (l:List ad_) (hl:l.length≤1048576) (hs:∀x∈l,szE x):∃r l',Ev (fun k=>cC_.f k n l 1) (r,l')∧Ev (fun k=>laws_heldCache.f k n l' 1) r∧1≤r:=by
 obtain⟨r,l',h1,h2,h3,h4⟩:=markEntryS_eq l hl (fun x hx=>(hs x hx).2.1) 1 (by omega) (by omega)
 refine⟨r,l',?_,?_,h4⟩
 ·unfold cC_.f
  exact Ev.bind' _ h1 (Ev.const rfl)
 ·unfold laws_heldCache.f
  exact Ev.bind' _ h2 (Ev.neg (by omega) (Ev.const rfl))
end Go.Proofs.YthohohfmdieohaaGreatDoor.PL
end
section
set_option linter.unusedVariables false
set_option linter.unusedSimpArgs false
namespace Go.Proofs.YthohohfmdieohaaGreatDoor.Pure
open Go.RowKit Go.Proofs.YthohohfmdieohaaGreatDoor.Pp Go.Proofs.YthohohfmdieohaaGreatDoor.PB Go.Proofs.YthohohfmdieohaaGreatDoor.PL Go.Proofs.YthohohfmdieohaaGreatDoorW.PrintWords Go.Proofs.YthohohfmdieohaaGreatDoorW.PrintLast
theorem FnExactPassTime:ab_.Pure:=by
 intro c l n _ hl _
 refine Ev.get (g:=fun k=>ab_.f k c l n) ?_
 unfold ab_.f
 obtain⟨t,ht,hs⟩:=szCache_eq c l hl 1048576 (by omega) (by omega)
 refine Ev.bind' _ ht ?_
 rcases hs with hs|⟨hs,_,l1,l2⟩
 ·exact Ev.pos hs (Ev.const rfl)
 ·have hto:=toCache_eq c l l1 l2
  have g1:(l.map cEnt).length≤1048576:=by simpa using l1
  have g2:=szE_map l2
  have hsp:=specPass_eq c _ n g1 g2
  have him:=implPass_eq c _ n g1 g2
  obtain⟨q1,q2⟩:=passR_small c (l.map cEnt) n g1 g2
  generalize passR c (l.map cEnt) n=R at hsp him q1 q2
  have heq:=eqCache_eq R.1 R.2.1 q1 q2
  have hea:=eqCache_eq c _ g1 g2
  obtain⟨r1,u1,a1,_,a3⟩:=markCache_eq c _ g1 g2
  obtain⟨r2,u2,b1,b2,b3⟩:=markCache_eq R.1 R.2.1 q1 q2
  exact Ev.neg (by omega) (Ev.bind' _ hto (Ev.bind' _ hsp (Ev.bind' _ him (Ev.bind' _ heq (Ev.a3_ (Ev.pos rfl (Ev.pos rfl (Ev.bind' _ hea (Ev.a3_ (Ev.bind' _ a1 (Ev.neg (by omega) (Ev.bind' _ b1 (Ev.bind' _ b2 (Ev.neg (by omega) (Ev.pos rfl (Ev.neg (by omega) (Ev.const rfl)))))))))))))))))
end Go.Proofs.YthohohfmdieohaaGreatDoor.Pure
end
