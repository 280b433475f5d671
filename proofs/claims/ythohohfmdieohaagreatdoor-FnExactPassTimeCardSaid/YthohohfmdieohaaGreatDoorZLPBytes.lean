/- Strings as lists of bytes;cutting at a byte. Plain lemmas. -/
import Derived.Test.YthohohfmdieohaaGreatDoorZXBase
import Derived.Lib.Bytealg
import Derived.Lib.SlTrimSet
set_option linter.unusedVariables false
set_option linter.unusedSimpArgs false
namespace Go.Proofs.YthohohfmdieohaaGreatDoor.PL
open Go.RowKit Go.Proofs.YthohohfmdieohaaGreatDoor.PB Go.Proofs.YthohohfmdieohaaGreatDoorW.PrintWords Go.Proofs.YthohohfmdieohaaGreatDoorW.PrintLast
def bts (s:ByteArray):List UInt8:=s.data.toList
theorem bE_ (s:ByteArray):s.size=(bts s).length:=Go.Lib.size_eq s
theorem b4_ (s:ByteArray):s.toList=bts s:=Go.Lib.toList_data s
theorem bts_mk (l:List UInt8):bts ⟨l.toArray⟩=l:=by simp[bts]
theorem extract_bts (s:ByteArray) (a b:Nat):s.extract a b=⟨(((bts s).drop a).take (b - a)).toArray⟩:=Go.Lib.extract_eq s a b
theorem mk_bts (s:ByteArray):(⟨(bts s).toArray⟩:ByteArray)=s:=Go.Lib.mk_data s
theorem bt_mid {s:ByteArray} {p t:List UInt8} {b:UInt8} (e:bts s=p++b::t):bt s (p.length:Int)=(b.toNat:Int):=by
  have hl:p.length<s.size:=by rw[bE_,e];simp
  have hd:s.data.size=s.size:=rfl
  unfold bt
  rw[dif_pos (by simpa using hl)]
  have h2:s.data[p.length]? = some b:=by
    rw[←Array.getElem?_toList]
    have e':s.data.toList=p++b::t:=e
    rw[e']
    simp
  have h3:s[p.length]'hl=b:=by
    have:s.data[p.length]'hl=b:=by
      rw[Array.getElem?_eq_getElem hl] at h2
      exact Option.some.inj h2
    exact this
  simp only[Int.toNat_natCast]
  rw[h3]
def splitC (c:UInt8) (cur:List UInt8):List UInt8→List ByteArray
  | []=>[⟨cur.toArray⟩]
  | b::t=>if b=c then⟨cur.toArray⟩::splitC c [] t else splitC c (cur++[b]) t
theorem splitC_pre (c:UInt8) (post:List UInt8):∀(pre cur:List UInt8),c∉pre→splitC c cur (pre++c::post)=⟨(cur++pre).toArray⟩::splitC c [] post
  | [],cur,_=>by simp[splitC]
  | b::pre,cur,h=>by
    have hb:b≠c:=fun e=>h (by simp[e])
    rw[List.cons_append,show splitC c cur (b::(pre++c::post))=if b=c then⟨cur.toArray⟩::splitC c [] (pre++c::post) else splitC c (cur++[b]) (pre++c::post) from rfl,if_neg hb,splitC_pre c post pre (cur++[b]) (fun hm=>h (by simp[hm]))]
    simp
theorem splitC_none (c:UInt8):∀(l cur:List UInt8),c∉l→splitC c cur l=[⟨(cur++l).toArray⟩]
  | [],cur,_=>by simp[splitC]
  | b::l,cur,h=>by
    have hb:b≠c:=fun e=>h (by simp[e])
    unfold splitC
    rw[if_neg hb,splitC_none c l (cur++[b]) (fun hm=>h (by simp[hm]))]
    simp
theorem splitC_len (c:UInt8):∀(l cur:List UInt8),(splitC c cur l).length≤l.length+1
  | [],cur=>by simp[splitC]
  | b::l,cur=>by
    unfold splitC
    split
    · simp only[List.length_cons];have:=splitC_len c l [];omega
    · have:=splitC_len c l (cur++[b]);simp only[List.length_cons];omega
theorem index_none:∀(l:List UInt8) (c:UInt8),Go.Lib.countByte l c=0→c∉l∧Go.Lib.indexByte l c = -1
  | [],c,_=>⟨by simp,rfl⟩
  | b::l,c,h=>by
    have hb:¬b=c:=by
      intro e
      subst e
      simp[Go.Lib.countByte] at h
    have h2:Go.Lib.countByte l c=0:=by
      simp only[Go.Lib.countByte,List.count_cons] at h ⊢
      omega
    obtain⟨i1,i2⟩:=index_none l c h2
    refine⟨?_,?_⟩
    · intro hm
      rcases List.mem_cons.mp hm with e|e
      · exact hb e.symm
      · exact i1 e
    · unfold Go.Lib.indexByte
      rw[if_neg (by simpa using hb),i2]
      simp
theorem index_some:∀(l:List UInt8) (c:UInt8),0<Go.Lib.countByte l c→∃pre post,l=pre++c::post∧c∉pre∧Go.Lib.indexByte l c=(pre.length:Int)∧Go.Lib.countByte l c=Go.Lib.countByte post c+1
  | [],c,h=>by simp[Go.Lib.countByte] at h
  | b::l,c,h=>by
    by_cases hb:b=c
    · subst hb
      refine⟨[],l,rfl,by simp,?_,?_⟩
      · unfold Go.Lib.indexByte;simp
      · simp[Go.Lib.countByte]
    · have h2:Go.Lib.countByte (b::l) c=Go.Lib.countByte l c:=by
        simp[Go.Lib.countByte,List.count_cons,hb]
      rw[h2] at h
      obtain⟨pre,post,e,hm,hi,hc⟩:=index_some l c h
      refine⟨b::pre,post,by rw[e];rfl,?_,?_,by rw[h2,hc]⟩
      · intro hm2
        rcases List.mem_cons.mp hm2 with e2|e2
        · exact hb e2.symm
        · exact hm e2
      · unfold Go.Lib.indexByte
        rw[if_neg (by simpa using hb),hi]
        have:((pre.length:Int) == -1)=false:=by
          simp<;>omega
        rw[this]
        simp
theorem count_le (l:List UInt8) (c:UInt8):Go.Lib.countByte l c≤l.length:=List.count_le_length
theorem trimS_nil (l cs:List UInt8):(Go.Lib.trimS l cs==[])=l.all (cs.contains ·):=by
  have dropNil:∀(q:UInt8→Bool) (x:List UInt8),x.dropWhile q=[]↔∀y∈x,q y=true:=by
    intro q x
    induction x with
    | nil=>simp
    | cons a x ih =>
      by_cases h:q a=true
      · rw[List.dropWhile_cons_of_pos h,ih]
        simp[h]
      · rw[List.dropWhile_cons_of_neg h]
        simp[h]
  rw[Bool.eq_iff_iff,beq_iff_eq,List.all_eq_true]
  unfold Go.Lib.trimS Go.Lib.trimLeftS Go.Lib.trimRightS
  constructor
  · intro h x hx
    rw[dropNil] at h
    by_cases hc:cs.contains x=true
    · exact hc
    · exfalso
      cases hr:l.reverse.dropWhile (cs.contains ·) with
      | nil =>
        rw[dropNil] at hr
        exact hc (hr x (by simpa using hx))
      | cons y r =>
        have hy:cs.contains y=true:=h y (by rw[hr];simp)
        have hn:∀(q:UInt8→Bool) (z:List UInt8) y r,z.dropWhile q=y::r→q y=false:=by
          intro q z
          induction z with
          | nil=>intro y r h;simp at h
          | cons a z ih =>
            intro y r h
            by_cases hq:q a=true
            · rw[List.dropWhile_cons_of_pos hq] at h
              exact ih y r h
            · rw[List.dropWhile_cons_of_neg hq] at h
              obtain⟨rfl,rfl⟩:=List.cons.inj h
              simpa using hq
        rw[hn _ _ y r hr] at hy
        cases hy
  · intro h
    rw[dropNil]
    intro y hy
    refine h y ?_
    rw[List.mem_reverse] at hy
    have:y∈l.reverse:=(List.dropWhile_sublist _).subset hy
    simpa using this
theorem all8 (f g:UInt8→Bool) (h:∀n:Fin 256,f (UInt8.ofNat n.1)=g (UInt8.ofNat n.1)) (b:UInt8):f b=g b:=by
  have:=h ⟨b.toNat,b.toNat_lt⟩
  simpa using this
end Go.Proofs.YthohohfmdieohaaGreatDoor.PL
