/- Texts that belong together,joined by claimit.py. -/
import Derived.Test.YtldinehdhmbkmaaGreatDoorKFnExactProveAbsentPQ
import Derived.Test.YtldinehdhmbkmaaGreatDoorJFnExactProveAbsent0
import Derived.Test.YtldinehdhmbkmaaGreatDoorJFnExactProveAbsent1
import Derived.Test.YtldinehdhmbkmaaGreatDoorJFnExactProveAbsent2
import Derived.Test.YtldinehdhmbkmaaGreatDoorJFnExactProveAbsent3
import Derived.Test.YtldinehdhmbkmaaGreatDoorJFnExactProveAbsent4
import Derived.Test.YtldinehdhmbkmaaGreatDoorZLPTy
import Derived.Test.YtldinehdhmbkmaaGreatDoorZXBase
import Derived.Test.YtldinehdhmbkmaaGreatDoorZLPBytes
section
set_option linter.unusedVariables false
set_option linter.unusedSimpArgs false
namespace Go.Proofs.YtldinehdhmbkmaaGreatDoor.PL
open Go.RowKit Go.Proofs.YtldinehdhmbkmaaGreatDoor.Pp Go.Proofs.YtldinehdhmbkmaaGreatDoor.PB Go.Proofs.YtldinehdhmbkmaaGreatDoorW.PrintWords Go.Proofs.YtldinehdhmbkmaaGreatDoorW.PrintLast
section
def starN (e:ByteArray):ByteArray:=if bts e=[] then(⟨#[42]⟩:ByteArray) else(⟨#[42,46]⟩:ByteArray)++e
theorem star_bts (e:ByteArray):bts (starN e)=if bts e=[] then [42] else 42::46::bts e:=by
 unfold starN
 split
 ·rfl
 ·unfold bts
  rw[ByteArray.data_append]
  simp
theorem star_size (e:ByteArray):(starN e).size≤e.size+2:=by
 rw[be_,be_,star_bts]
 split
 ·simp
 ·simp
theorem star_below {e apex:ByteArray} (h:belowN e apex=true):belowN (starN e) apex=true:=by
 rw[below_iff,star_bts]
 rcases below_iff.mp h with h1|h1|⟨p,h1⟩
 ·exact Or.inl h1
 ·by_cases he:bts e=[]
  ·exact Or.inl (by rw[←h1,he])
  ·rw[if_neg he]
   exact Or.inr (Or.inr ⟨[42],by rw[h1];rfl⟩)
 ·have he:bts e≠[]:=fun h2=>by
   rw[h2] at h1
   have:=congrArg List.length h1
   simp at this
  rw[if_neg he]
  exact Or.inr (Or.inr ⟨42::46::p,by rw[←h1];simp⟩)
theorem starOf_eq (e:ByteArray) (he:e.size≤1048576):impl_starOf.f e=some (starN e):=by
 unfold impl_starOf.f starN
 rw[aT_]
 split
 ·rfl
 ·rw[if_pos (by omega)]
def renR (name:ByteArray) (r:aa_):aa_:=⟨name,r.f1,r.f2,r.f3⟩
def byN (l:List aa_) (owner name:ByteArray) (kind:Int):Int × ByteArray × List aa_ × List aa_ :=
 if (atR l owner kind).length > 0 then(1,owner,(atR l owner kind).map (renR name),[]) else if (atR l owner 5).length > 0 then(2,owner,(atR l owner 5).map (renR name),[]) else(4,owner,[],[])
def lookN (apex:ByteArray) (l:List aa_) (name:ByteArray) (kind:Int):Int × ByteArray × List aa_ × List aa_ :=
 if belowN name apex=true then(if (cutOf apex l name).2=true then(3,(cutOf apex l name).1,atR l (cutOf apex l name).1 2,[])
  else if anyB l name=true then byN l name name kind else if anyB l (starN (enclOf apex l name))=true then byN l (starN (enclOf apex l name)) name kind else(5,enclOf apex l name,[],[]))
 else(6,(⟨#[]⟩:ByteArray),[],[])
theorem l6Set_eq (l:List aa_) (name:ByteArray) (kind:Int) (hk:kind≠0) (hl:l.length≤1048576):Ev (fun k=>bL_.f k l name kind) (atR l name kind):=by
 unfold bL_.f atR
 refine Ev.eq_ (a1_ l (fun k (acc:List aa_) i=>bL_.l0 k name kind acc l (l.length:Int) i) (fun acc t=>acc++t.filter (fun r=>decide (bts r.f0=bts name)&&(decide (kind=0)||decide (r.f1=kind)))) (fun p acc=>acc.length≤p.length) ?_ ?_ [] (Nat.le_refl _)) (by simp)
 ·intro acc _
  apply Ev.succ
  simp only[bL_.l0]
  exact Ev.neg (by omega) (Ev.const (by simp))
 ·intro p x t acc e ha ih
  have hm:=a7_ e
  apply Ev.succ
  simp only[bL_.l0,a_,bP_ e,aT_]
  rw[w64 (i:=(p.length:Int)+1) (by omega) (by omega)]
  refine Ev.pos hm.1 (Ev.pos (by omega) (Ev.pos hm.1 ?_))
  by_cases h1:bts x.f0=bts name
  ·refine Ev.pos h1 ?_
   by_cases h3:x.f1=kind
   ·refine Ev.pos h3 (Ev.pos (by omega) (Ev.eq_ (ih (acc++[x]) (by simp;omega)) ?_))
    rw[List.filter_cons_of_pos (by simp[h1,h3])]
    simp
   ·refine Ev.neg h3 (Ev.eq_ (ih acc (by simp;omega)) ?_)
    rw[List.filter_cons_of_neg (by simp[hk,h3])]
  ·refine Ev.neg h1 (Ev.eq_ (ih acc (by simp;omega)) ?_)
   rw[List.filter_cons_of_neg (by simp[h1])]
theorem ren_loop (name:ByteArray) (kind:Int) (owner:ByteArray):∀(t p:List aa_),(p++t).length≤1048576→Ev (fun k=>a9_.l0 k name ((p++t).length:Int) (p.length:Int) kind owner (p.map (renR name)++t)) (kind,owner,(p++t).map (renR name),[])
 | [],p,h=>by
  apply Ev.succ
  simp only[a9_.l0]
  exact Ev.neg (by simp) (Ev.const (by simp))
 | x::t,p,h=>by
  have hlen:(p++x::t).length=p.length+(t.length+1):=by simp
  have hlen2:(p.map (renR name)++x::t).length=p.length+(t.length+1):=by simp
  have ih:=ren_loop name kind owner t (p++[x]) (by simpa using h)
  have e1:(p++[x])++t=p++x::t:=by simp
  rw[e1] at ih
  apply Ev.succ
  simp only[a9_.l0]
  rw[w64 (i:=(p.length:Int)+1) (by omega) (by omega)]
  refine Ev.pos (by omega) (Ev.pos (by omega) (Ev.pos (by omega) ?_))
  have hx:a_ (p.map (renR name)++x::t) (p.length:Int)=x:=by
   unfold a_
   have:=bP_ (l:=p.map (renR name)++x::t) (p:=p.map (renR name)) (x:=x) (t:=t) (d:=cO_) rfl
   rw[List.length_map] at this
   exact this
  rw[hx]
  have e2:=set_mid (p.map (renR name)) t (renR name x) x
  rw[List.length_map] at e2
  have hr:(⟨name,x.f1,x.f2,x.f3⟩:aa_)=renR name x:=rfl
  rw[hr,e2]
  have e3:(((p++[x]).length:Nat):Int)=(p.length:Int)+1:=by simp
  rw[e3] at ih
  have e4:(p++[x]).map (renR name)++t=(p.map (renR name)++[renR name x])++t:=by simp
  rw[e4] at ih
  exact ih
theorem implBy_eq (l:List aa_) (owner name:ByteArray) (kind:Int) (apex:ByteArray) (c:Int) (hl:l.length≤1048576):Ev (fun k=>a9_.j0 k name kind owner apex c l) (byN l owner name kind):=by
 have h1:=atR_len l owner kind
 have h2:=atR_len l owner 5
 have tell:∀(kd:Int) (m:List aa_),m.length≤1048576→Ev (fun k=>a9_.j1 k name owner kd owner m) (if m.length > 0 then(kd,owner,m.map (renR name),[]) else(4,owner,[],[])):=by
  intro kd m hm
  apply Ev.succ
  simp only[a9_.j1]
  by_cases h:m.length=0
  ·exact Ev.pos (by omega) (Ev.const (by rw[if_neg (by omega)]))
  ·rw[if_pos (by omega)]
   refine Ev.neg (by omega) ?_
   have:=ren_loop name kd owner m [] (by simpa using hm)
   simpa using this
 unfold byN
 apply Ev.succ
 simp only[a9_.j0]
 refine Ev.bind' _ (at_eq l owner kind hl) ?_
 by_cases h3:(atR l owner kind).length > 0
 ·rw[if_pos h3]
  refine Ev.neg (by omega) ?_
  have:=tell 1 (atR l owner kind) (by omega)
  rw[if_pos h3] at this
  exact this
 ·rw[if_neg h3]
  exact Ev.pos (by omega) (Ev.bind' _ (at_eq l owner 5 hl) (tell 2 (atR l owner 5) (by omega)))
theorem specBy_eq (l:List aa_) (owner name:ByteArray) (kind:Int) (apex:ByteArray) (c:Int) (hk:kind≠0) (hl:l.length≤1048576):Ev (fun k=>bH_.f k apex c l owner name kind) (byN l owner name kind):=by
 have h1:=atR_len l owner kind
 have h2:=atR_len l owner 5
 have tell:∀(kd:Int) (m:List aa_),m.length≤1048576→Ev (fun k=>bH_.j0 k name m kd owner) (kd,owner,m.map (renR name),[]):=by
  intro kd m hm
  apply Ev.succ
  simp only[bH_.j0]
  refine Ev.eq_ (a1_ m (fun k (acc:List aa_) i=>bH_.l0 k name m (m.length:Int) i kd owner acc) (fun acc t=>(kd,owner,acc++t.map (renR name),[])) (fun p acc=>acc.length≤p.length) ?_ ?_ [] (Nat.le_refl _)) (by simp)
  ·intro acc _
   apply Ev.succ
   simp only[bH_.l0]
   exact Ev.neg (by omega) (Ev.const (by simp))
  ·intro p x t acc e ha ih
   have hm:=a7_ e
   apply Ev.succ
   simp only[bH_.l0,a_,bP_ e]
   rw[w64 (i:=(p.length:Int)+1) (by omega) (by omega)]
   refine Ev.pos hm.1 (Ev.pos (by omega) (Ev.pos hm.1 (Ev.pos (by omega) (Ev.eq_ (ih (acc++[renR name x]) (by simp;omega)) ?_))))
   simp
 unfold bH_.f byN
 refine Ev.bind' _ (l6Set_eq l owner kind hk hl) ?_
 by_cases h3:(atR l owner kind).length > 0
 ·rw[if_pos h3]
  exact Ev.pos (by omega) (tell 1 _ (by omega))
 ·rw[if_neg h3]
  refine Ev.neg (by omega) (Ev.bind' _ (l6Set_eq l owner 5 (by omega) hl) ?_)
  by_cases h4:(atR l owner 5).length > 0
  ·rw[if_pos h4]
   exact Ev.pos (by omega) (tell 2 _ (by omega))
  ·rw[if_neg h4]
   have h5:atR l owner 5=[]:=List.eq_nil_of_length_eq_zero (by omega)
   rw[h5]
   exact Ev.neg (by simp) (Ev.eq_ (tell 4 [] (by simp)) (by simp))
section
variable (apex:ByteArray) (c:Int) (l:List aa_) (ha:apex.size≤1048576) (hl:l.length≤1048576) (hs:∀r∈l,szR r)
include ha hl hs
theorem specLook_eq (name:ByteArray) (kind:Int) (hn:name.size≤1048570) (hk:kind≠0):Ev (fun k=>cu_.f k apex c l name kind) (lookN apex l name kind):=by
 unfold cu_.f lookN
 refine Ev.cbind _ (specBelow_eq name apex (by omega) ha) ?_
 cases hb:belowN name apex with
 | false=>exact Ev.aJ_ (Ev.const (by simp))
 | true =>
  rw[if_pos rfl]
  refine Ev.aK_ (Ev.bind' _ (l6Cut_eq apex l name ha hl (by omega) hb) ?_)
  cases hc:(cutOf apex l name).2 with
  | true =>
   rw[if_pos rfl]
   exact Ev.aK_ (Ev.bind' _ (l6Set_eq l _ 2 (by omega) hl) (Ev.const rfl))
  | false =>
   rw[if_neg (by simp)]
   refine Ev.aJ_ (Ev.bind' _ (l7There_eq apex c l name hl hs (by omega)) ?_)
   have hq:l.any (fun r=>belowN r.f0 name)=anyB l name:=rfl
   rw[hq]
   cases anyB l name with
   | true =>
    rw[if_pos rfl]
    exact Ev.aK_ (Ev.bind' _ (specBy_eq l name name kind apex c hk hl) (Ev.const rfl))
   | false =>
    rw[if_neg (by simp)]
    obtain⟨e1,e2⟩:=enclOf_facts apex l name hb
    have e3:=star_size (enclOf apex l name)
    have hj:Ev (fun k=>cu_.j0 k name kind (enclOf apex l name) (starN (enclOf apex l name)) apex c l) (if anyB l (starN (enclOf apex l name))=true then byN l (starN (enclOf apex l name)) name kind else(5,enclOf apex l name,[],[])):=by
     apply Ev.succ
     simp only[cu_.j0]
     refine Ev.bind' _ (l7There_eq apex c l (starN (enclOf apex l name)) hl hs (by omega)) ?_
     have hq2:l.any (fun r=>belowN r.f0 (starN (enclOf apex l name)))=anyB l (starN (enclOf apex l name)):=rfl
     rw[hq2]
     cases anyB l (starN (enclOf apex l name)) with
     | true=>exact Ev.aK_ (Ev.bind' _ (specBy_eq l _ name kind apex c hk hl) (Ev.const (by simp)))
     | false=>exact Ev.aJ_ (Ev.const (by simp))
    refine Ev.aJ_ (Ev.bind' _ (specEncl_eq apex c l hl hs name (by omega) hb) (Ev.pos (by omega) ?_))
    simp only[aT_]
    by_cases he:bts (enclOf apex l name)=[]
    ·refine Ev.pos he ?_
     have:starN (enclOf apex l name)=(⟨#[42]⟩:ByteArray):=by unfold starN;rw[if_pos he]
     rw[this] at hj
     rw[this]
     exact hj
    ·refine Ev.neg he ?_
     have:starN (enclOf apex l name)=(⟨#[42,46]⟩:ByteArray)++enclOf apex l name:=by unfold starN;rw[if_neg he]
     rw[this] at hj
     rw[this]
     exact hj
theorem implLook_eq (hroot:anyB l apex=true) (name:ByteArray) (kind:Int) (hn:name.size≤1048570):Ev (fun k=>a9_.f k apex c l name kind) (lookN apex l name kind):=by
 unfold a9_.f lookN
 refine Ev.cbind _ (implBelow_eq name apex (by omega) ha) ?_
 cases hb:belowN name apex with
 | false=>exact Ev.aJ_ (Ev.const (by simp))
 | true =>
  rw[if_pos rfl]
  refine Ev.aK_ (Ev.bind' _ (cutAbove_eq apex c l name ha hl (by omega) hb) ?_)
  cases hc:(cutOf apex l name).2 with
  | true =>
   rw[if_pos rfl]
   exact Ev.aK_ (Ev.bind' _ (at_eq l _ 2 hl) (Ev.const rfl))
  | false =>
   rw[if_neg (by simp)]
   refine Ev.aJ_ (Ev.bind' _ (isThere_eq apex c l name ha hl hs (by omega)) ?_)
   have hq:thereN apex l name=anyB l name:=by unfold thereN anyB;rw[hb,Bool.true_and]
   rw[hq]
   cases anyB l name with
   | true =>
    rw[if_pos rfl]
    exact Ev.aK_ (implBy_eq l name name kind apex c hl)
   | false =>
    rw[if_neg (by simp)]
    obtain⟨e1,e2⟩:=enclOf_facts apex l name hb
    have e3:=star_size (enclOf apex l name)
    refine Ev.aJ_ (Ev.bind' _ (implEncl_eq apex c l ha hl hs hroot name (by omega) hb) (Ev.cbind _ (starOf_eq _ (by omega)) (Ev.bind' _ (isThere_eq apex c l (starN (enclOf apex l name)) ha hl hs (by omega)) ?_)))
    have hq2:thereN apex l (starN (enclOf apex l name))=anyB l (starN (enclOf apex l name)):=by unfold thereN anyB;rw[star_below e2,Bool.true_and]
    rw[hq2]
    cases anyB l (starN (enclOf apex l name)) with
    | true =>
     rw[if_pos rfl]
     exact Ev.aK_ (implBy_eq l _ name kind apex c hl)
    | false =>
     rw[if_neg (by simp)]
     exact Ev.aJ_ (Ev.const rfl)
end
end
section
theorem nameOk_sz {s:ByteArray} (h:nameOk s=true):s.size≤60:=(nameOk_small h).1
theorem gapsT_at (ns:List ByteArray) (l:List aa_):∀(t p:List ByteArray),ns=p++t→∀(i:Nat) (g:aD_),(gapsT ns l t)[i]? = some g→ns[p.length+i]? = some g.f0∧ns[(p.length+i+1) % ns.length]? = some g.f1
 | [],p,e,i,g,h=>by simp[gapsT] at h
 | n::t,p,e,i,g,h=>by
  have hm:=a7_ e
  cases i with
  | zero =>
   have h:(⟨n,ns.getD ((ns.length - t.length) % ns.length) ByteArray.empty,typesR n l⟩:aD_)=g:=by simpa[gapsT] using h
   subst h
   have hlt:(ns.length - t.length) % ns.length<ns.length:=Nat.mod_lt _ (by omega)
   refine⟨by rw[e];simp,?_⟩
   show ns[(p.length+0+1) % ns.length]? = some (ns.getD ((ns.length - t.length) % ns.length) ByteArray.empty)
   rw[show p.length+0+1=ns.length - t.length from by omega,List.getD_eq_getElem?_getD,List.getElem?_eq_getElem hlt]
   rfl
  | succ i =>
   have:=gapsT_at ns l t (p++[n]) (by rw[e];simp) i g (by simpa[gapsT] using h)
   rw[show(p++[n]).length+i=p.length+(i+1) from by simp;omega] at this
   exact this
theorem gapsR_ring (l:List aa_):Ring (namesR l) (gapsR l):=⟨gapsT_len _ _ _,fun i g h=>by simpa using gapsT_at (namesR l) l (namesR l) [] rfl i g h⟩
theorem addN_mem (s:List ByteArray) (r:aa_):(∀m∈s,m∈addN s r)∧r.f0∈addN s r:=by
 rcases nil_or_snoc s with rfl|⟨q,y,rfl⟩
 ·rw[addN_nil];simp
 ·by_cases hy:bts y=bts r.f0
  ·rw[addN_same q y r hy,←cU_ hy]
   simp
  ·rw[addN_new q y r hy]
   exact⟨fun m hm=>List.mem_append_left _ hm,by simp⟩
theorem names_mem:∀(l:List aa_) (s:List ByteArray),(∀m∈s,m∈l.foldl addN s)∧∀r∈l,r.f0∈l.foldl addN s
 | [],s=>by simp
 | x::t,s=>by
  obtain⟨h1,h2⟩:=names_mem t (addN s x)
  obtain⟨h3,h4⟩:=addN_mem s x
  rw[List.foldl_cons]
  refine⟨fun m hm=>h1 m (h3 m hm),fun r hr=>?_⟩
  rcases List.mem_cons.mp hr with rfl|hr
  ·exact h1 _ h4
  ·exact h2 r hr
theorem soa_at (apex:ByteArray):∀l:List aa_,soaN apex l=1→∃r∈l,bts r.f0=bts apex
 | [],h=>by simp[soaN] at h
 | r::t,h=>by
  by_cases h1:bts r.f0=bts apex
  ·exact⟨r,by simp,h1⟩
  ·have h2:soa1 apex r=0∨soa1 apex r=2:=by
    unfold soa1
    by_cases h6:r.f1=6
    ·right;simp[h6,h1]
    ·left;simp[h6]
   have h3:soa1 apex r+soaN apex t=1:=h
   obtain⟨q,hq,e⟩:=soa_at apex t (by omega)
   exact⟨q,by simp[hq],e⟩
theorem zone_first {apex:ByteArray} {c:Int} {l:List aa_} (h:zoneOk apex c l=true) {x:ByteArray} (hx:belowN x apex=true):∃o,(namesR l)[0]? = some o∧cmpN o x≤0:=by
 obtain⟨_,_,_,_,_,_,hs⟩:=zone_facts h
 obtain⟨_,hp,_⟩:=zone_names h
 obtain⟨i1,_,_,_⟩:=names_inv l.length l rfl hp
 obtain⟨r,hr,e⟩:=soa_at apex l hs
 have hm:apex∈namesR l:=by
  have:=(names_mem l []).2 r hr
  rw[cU_ e] at this
  exact this
 obtain⟨j,hj,ej⟩:=List.mem_iff_getElem.mp hm
 have h0:0<(namesR l).length:=by omega
 refine⟨(namesR l)[0],List.getElem?_eq_getElem h0,?_⟩
 refine cmpN_cmp.trans _ apex x ?_ (below_cmp hx)
 cases j with
 | zero=>rw[←ej,cmpN_cmp.self];exact Int.le_refl _
 | succ j =>
  have h3:(namesR l).Pairwise (fun a b=>cmpN a b<0):=i1
  have:=List.pairwise_iff_getElem.mp h3 0 (j+1) h0 hj (by omega)
  rw[ej] at this
  omega
theorem zone_gap {apex:ByteArray} {c:Int} {l:List aa_} (h:zoneOk apex c l=true) {x:ByteArray} (hx:belowN x apex=true):(gapsR l).any (fun g=>hitG g x)=true:=by
 obtain⟨o,h1,h2⟩:=zone_first h hx
 exact ring_any (gapsR_ring l) (names_inv l.length l rfl (zone_names h).2.1).1 x o h1 h2
def lowN (s:ByteArray):Prop:=(labels s).all labelOk=true∧(labels s).length≤7∧(bts s).length≤58
theorem parent_low (s:ByteArray) (h:(labels s).all labelOk=true):(labels (parentN s)).length≤(labels s).length - 1∧(bts (parentN s)).length≤(bts s).length - 2:=by
 rcases dot_split (bts s) with ⟨h2,h3⟩|⟨pre,post,e,h2,h3⟩
 ·have:bts (parentN s)=[]:=by rw[parentN,ch_,after_none _ h2]
  exact⟨by simp[labels,this],by simp[this]⟩
 ·have e1:bts (parentN s)=post:=by rw[parentN,ch_,e,after_pre _ _ h2]
  have e2:labels s=⟨pre.toArray⟩::splitC 46 [] post:=by
   unfold labels
   rw[if_neg (by rw[e];simp),e,splitC_pre _ _ _ _ h2]
   simp
  rw[e2] at h ⊢
  rw[e1]
  have hpre:pre≠[]:=by
   rintro rfl
   rw[List.all_cons,Bool.and_eq_true] at h
   have:=h.1
   simp[labelOk,bts,inR] at this
  have hl:0<pre.length:=List.length_pos_iff.mpr hpre
  refine⟨?_,by rw[e];simp;omega⟩
  unfold labels
  rw[e1]
  split
  ·simp
  ·simp
theorem low_parent {s:ByteArray} (h:lowN s):lowN (parentN s):=by
 have:=parent_low s h.1
 exact⟨parent_labels s h.1,by have:=h.2.1;omega,by have:=h.2.2;omega⟩
theorem encl_low (apex:ByteArray) (l:List aa_):∀(n:Nat) (s:ByteArray),lowN s→lowN (enclN apex l n s)
 | 0,_,h=>h
 | n+1,s,h=>by
  rw[enclN_succ]
  split
  ·exact h
  ·split
   ·exact h
   ·exact encl_low apex l n _ (low_parent h)
theorem star_ok {e:ByteArray} (h:lowN e):nameOk (starN e)=true:=by
 obtain⟨h1,h2,h3⟩:=h
 have hst:labelOk (⟨#[42]⟩:ByteArray)=true:=by decide
 have hb:=star_bts e
 have hl:(labels (starN e)).all labelOk=true∧(labels (starN e)).length≤8∧(bts (starN e)).length≤60:=by
  by_cases he:bts e=[]
  ·rw[if_pos he] at hb
   have:labels (starN e)=[(⟨#[42]⟩:ByteArray)]:=by
    unfold labels
    rw[hb]
    rfl
   rw[this,hb]
   exact⟨by simpa using hst,by simp,by simp⟩
  ·rw[if_neg he] at hb
   have:labels (starN e)=(⟨#[42]⟩:ByteArray)::labels e:=by
    unfold labels
    rw[hb,if_neg he,if_neg (by simp)]
    rfl
   rw[this,hb]
   refine⟨by rw[List.all_cons,hst,h1];rfl,by simp;omega,by simp;omega⟩
 unfold nameOk
 rw[hl.1]
 simp[hl.2.1,hl.2.2]
theorem look5 {apex:ByteArray} {l:List aa_} {x:ByteArray} {k:Int} (h:(lookN apex l x k).1=5):belowN x apex=true∧anyB l x=false:=by
 unfold lookN at h
 by_cases h1:belowN x apex=true
 ·rw[if_pos h1] at h
  refine⟨h1,?_⟩
  by_cases h2:(cutOf apex l x).2=true
  ·rw[if_pos h2] at h
   exact absurd h (by simp)
  ·rw[if_neg h2] at h
   by_cases h3:anyB l x=true
   ·rw[if_pos h3] at h
    unfold byN at h
    split at h
    ·exact absurd h (by simp)
    ·split at h
     ·exact absurd h (by simp)
     ·exact absurd h (by simp)
   ·simpa using h3
 ·rw[if_neg h1] at h
  exact absurd h (by simp)
theorem star_fine {apex:ByteArray} {c:Int} {l:List aa_} {x:ByteArray} (hz:zoneOk apex c l=true) (hx:nameOk x=true) (hb:belowN x apex=true) (ha:anyB l x=false):nameOk (starN (enclOf apex l x))=true:=by
 have hne:bts x≠bts apex:=fun e=>by
  have:=zone_root hz
  rw[←cU_ e,ha] at this
  cases this
 obtain⟨hx0,_⟩:=below_parent hb hne
 apply star_ok
 unfold enclOf
 rw[enclN_succ,if_neg hne,ha,if_neg (by simp)]
 apply encl_low
 obtain⟨g1,g2⟩:=nameOk_labels hx
 have hs:=nameOk_small hx
 have hp:=parent_low x g1
 have hx1:0<(bts x).length:=List.length_pos_iff.mpr hx0
 exact⟨parent_labels x g1,by omega,by omega⟩
def gAt (l:List aa_) (x:ByteArray):aD_:=((gapsR l).find? (fun g=>hitG g x)).getD gapZ
def provR (apex:ByteArray) (c:Int) (l:List aa_) (x:ByteArray):List aD_ × Bool :=
 if zoneOk apex c l=true then(if nameOk x=true then(if (lookN apex l x 1).1=5 then(if bts (gAt l (starN (enclOf apex l x))).f0=bts (gAt l x).f0 then([gAt l x],true) else([gAt l x,gAt l (starN (enclOf apex l x))],true)) else([],false)) else([],false)) else([],false)
theorem gapsR_sizes {apex:ByteArray} {c:Int} {l:List aa_} (h:zoneOk apex c l=true):(gapsR l).length≤40∧∀g∈gapsR l,okN g.f0∧okN g.f1∧g.f2.length≤40:=by
 obtain⟨h1,h2,h3⟩:=zone_names h
 have hn:=namesR_len l
 obtain⟨_,i2,_,_⟩:=names_inv l.length l rfl h2
 have hin:∀m∈namesR l,okN m:=fun m hm=>by
  obtain⟨r,hr,e⟩:=i2 m hm
  rw[←e]
  exact h3 r hr
 refine⟨by rw[show(gapsR l).length=(namesR l).length from gapsT_len _ _ _];omega,fun g hg=>?_⟩
 obtain⟨i,hi⟩:=List.mem_iff_getElem?.mp hg
 obtain⟨e0,e1⟩:=(gapsR_ring l).own i g hi
 exact⟨hin _ (List.mem_of_getElem? e0),hin _ (List.mem_of_getElem? e1),Nat.le_trans (gapsT_types _ _ _ g hg) h1⟩
section
variable (apex:ByteArray) (c:Int) (l:List aa_) (ha:apex.size≤1048576) (hl:l.length≤1048576) (hs:∀r∈l,szR r) (x:ByteArray) (hx:x.size≤1048576)
include ha hl hs hx
theorem implProve_eq:Ev (fun k=>ac_.f k apex c l x) (provR apex c l x):=by
 unfold ac_.f provR
 refine Ev.bind' _ (implZone_eq apex c l ha hl hs) ?_
 cases hz:zoneOk apex c l with
 | false=>exact Ev.aJ_ (Ev.const (by simp))
 | true =>
  refine Ev.aK_ (Ev.bind' _ (implGoodName_eq x hx) ?_)
  cases hn:nameOk x with
  | false=>exact Ev.aJ_ (Ev.const (by simp))
  | true =>
   have hsz:=nameOk_sz hn
   refine Ev.aK_ (Ev.bind' _ (implLook_eq apex c l ha hl hs (zone_root hz) x 1 (by omega)) ?_)
   by_cases h5:(lookN apex l x 1).1=5
   ·obtain⟨hb,hany⟩:=look5 h5
    obtain⟨q1,q2⟩:=gapsR_sizes hz
    have hst:=star_fine hz hn hb hany
    have hss:=nameOk_sz hst
    have he:=(enclOf_facts apex l x hb).1
    have hsz2:∀g∈gapsR l,g.f0.size≤1048576∧g.f1.size≤1048576∧g.f2.length≤1048576:=fun g hg=>⟨(q2 g hg).1.1,(q2 g hg).2.1.1,by have:=(q2 g hg).2.2;omega⟩
    refine Ev.pos h5 (Ev.bind' _ (gapsOf_eq apex c l hl) (Ev.bind' _ (gapFor_eq (gapsR l) x (by omega) hx hsz2) (Ev.bind' _ (implEncl_eq apex c l ha hl hs (zone_root hz) x hx hb) (Ev.cbind _ (starOf_eq _ (by omega)) (Ev.bind' _ (gapFor_eq (gapsR l) _ (by omega) (by omega) hsz2) ?_)))))
    simp only[aT_,if_true]
    rw[if_pos h5]
    show Ev (fun k=>if bts (gAt l (starN (enclOf apex l x))).f0=bts (gAt l x).f0 then some ([gAt l x],true) else some ([gAt l x,gAt l (starN (enclOf apex l x))],true)) _
    by_cases h6:bts (gAt l (starN (enclOf apex l x))).f0=bts (gAt l x).f0
    ·exact Ev.pos h6 (Ev.const (by rw[if_pos h6]))
    ·exact Ev.neg h6 (Ev.const (by rw[if_neg h6]))
   ·exact Ev.neg h5 (Ev.const (by simp[h5]))
theorem specProve_eq:Ev (fun k=>bA_.f k apex c l x) (provR apex c l x):=by
 unfold bA_.f provR
 have hno:∀r,r=(([]:List aD_),false)→Ev (fun k=>bA_.j0 k x true apex c l) r:=fun r hr=>by
  apply Ev.succ
  simp only[bA_.j0]
  exact Ev.pos trivial (Ev.const (by rw[hr]))
 refine Ev.bind' _ (specZone_eq apex c l ha hl hs) ?_
 cases hz:zoneOk apex c l with
 | false=>exact Ev.aJ_ (hno _ (by simp))
 | true =>
  refine Ev.aK_ (Ev.bind' _ (specGoodName_eq x hx) ?_)
  cases hn:nameOk x with
  | false=>exact Ev.aJ_ (hno _ (by simp))
  | true =>
   have hsz:=nameOk_sz hn
   refine Ev.aK_ (Ev.bind' _ (specLook_eq apex c l ha hl hs x 1 (by omega) (by decide)) ?_)
   by_cases h5:(lookN apex l x 1).1=5
   ·obtain⟨hb,hany⟩:=look5 h5
    obtain⟨q1,q2⟩:=gapsR_sizes hz
    obtain⟨_,hp,hnm⟩:=zone_names hz
    have hst:=star_fine hz hn hb hany
    have hss:=nameOk_sz hst
    obtain⟨he,heb⟩:=enclOf_facts apex l x hb
    have hg:∀g∈gapsR l,(g.f0.size≤1048576∧(labels g.f0).all labelOk=true)∧(g.f1.size≤1048576∧(labels g.f1).all labelOk=true):=fun g hg=>⟨(q2 g hg).1,(q2 g hg).2.1⟩
    have hstar:spec_l8Star.f (enclOf apex l x)=some (starN (enclOf apex l x)):=by
     unfold spec_l8Star.f starN
     rw[aT_]
     split
     ·rfl
     ·rw[if_pos (by omega)]
    obtain⟨i,g,a1,a2,a3,a4⟩:=idx_find (fun g=>hitG g x) (gapsR l) (zone_gap hz hb)
    obtain⟨j,h,b1,b2,b3,b4⟩:=idx_find (fun g=>hitG g (starN (enclOf apex l x))) (gapsR l) (zone_gap hz (star_below heb))
    have f1:=l8For_eq (gapsR l) x (by omega) hx (nameOk_labels hn).1 hg
    have f2:=l8For_eq (gapsR l) (starN (enclOf apex l x)) (by omega) (by omega) (nameOk_labels hst).1 hg
    rw[a1,if_pos (by omega)] at f1
    rw[b1,if_pos (by omega)] at f2
    have i1:=(List.getElem?_eq_some_iff.mp a2).1
    have j1:=(List.getElem?_eq_some_iff.mp b2).1
    have hig:af_ (gapsR l) (i:Int)=g:=by
     show(gapsR l).getD ((i:Int)).toNat _=g
     rw[Int.toNat_natCast,List.getD_eq_getElem?_getD,a2];rfl
    have hjh:af_ (gapsR l) (j:Int)=h:=by
     show(gapsR l).getD ((j:Int)).toNat _=h
     rw[Int.toNat_natCast,List.getD_eq_getElem?_getD,b2];rfl
    have hgx:gAt l x=g:=by unfold gAt;rw[a3];rfl
    have hgs:gAt l (starN (enclOf apex l x))=h:=by unfold gAt;rw[b3];rfl
    have own:∀g:aD_,g.f2.length≤40→spec_l8Own.f g.f0 g.f1 g.f2=some (g.f0,g.f1,g.f2):=fun g hg=>by
     unfold spec_l8Own.f
     rw[Option.bind_some,if_pos (by simp;omega)]
     simp
    have e5:((lookN apex l x 1).1 != 5)=false:=by rw[h5];rfl
    rw[e5,hgx,hgs,if_pos h5]
    have hown:bts h.f0=bts g.f0↔j=i:=⟨fun e=>(ring_owner (gapsR_ring l) (names_inv l.length l rfl hp).1 b2 a2).mp (cU_ e),fun e=>by rw[(ring_owner (gapsR_ring l) (names_inv l.length l rfl hp).1 b2 a2).mpr e]⟩
    apply Ev.succ
    simp only[bA_.j0,if_true]
    refine Ev.neg (by simp) (Ev.bind' _ (l8Gaps_eq apex c l hl hp hnm) (Ev.bind' _ (specEncl_eq apex c l hl hs x hx hb) (Ev.cbind _ hstar (Ev.bind' _ (specGoodName_eq _ (by omega)) ?_))))
    rw[hst]
    refine Ev.aK_ (Ev.bind' _ f1 (Ev.bind' _ f2 (Ev.pos (by omega) (Ev.pos (by omega) ?_))))
    rw[hig,hjh]
    refine Ev.cbind _ (own g (q2 g (List.mem_of_getElem? a2)).2.2) (Ev.cbind _ rfl ?_)
    by_cases hij:j=i
    ·exact Ev.pos (by omega) (Ev.const (by rw[if_pos (hown.mpr hij)]))
    ·exact Ev.neg (by omega) (Ev.pos (by omega) (Ev.pos (by omega) (Ev.cbind _ (own h (q2 h (List.mem_of_getElem? b2)).2.2) (Ev.pos (by simp) (Ev.const (by rw[if_neg (fun e=>hij (hown.mp e))];rfl))))))
   ·have e5:((lookN apex l x 1).1 != 5)=true:=by simp[h5]
    rw[e5]
    exact hno _ (by simp[h5])
end
theorem provR_small (apex:ByteArray) (c:Int) (l:List aa_) (x:ByteArray):(provR apex c l x).1.length≤1048576∧∀g∈(provR apex c l x).1,g.f2.length≤1000:=by
 unfold provR
 by_cases hz:zoneOk apex c l=true
 ·rw[if_pos hz]
  obtain⟨q1,q2⟩:=gapsR_sizes hz
  have hg:∀y,(gAt l y).f2.length≤1000:=fun y=>by
   unfold gAt
   cases hf:(gapsR l).find? (fun g=>hitG g y) with
   | none=>simp[gapZ]
   | some g =>
    have:=(q2 g (List.mem_of_find?_eq_some hf)).2.2
    simp only[Option.getD_some]
    omega
  split
  ·split
   ·split
    ·exact⟨by simp,fun g h=>by rw[List.mem_singleton.mp h];exact hg _⟩
    ·refine⟨by simp,fun g h=>?_⟩
     rcases List.mem_cons.mp h with e|e
     ·rw[e];exact hg _
     ·rw[List.mem_singleton.mp e];exact hg _
   ·exact⟨by simp,by simp⟩
  ·exact⟨by simp,by simp⟩
 ·rw[if_neg hz]
  exact⟨by simp,by simp⟩
end
theorem strOfNums_one (x:Int):(strOfNums [x]).size=1:=rfl
theorem markText_eq (a:Int) (h0:0≤a) (h1:a≤4611686018427387904):∃s,Ev (fun k=>a4_.f k a) s:=by
 have main:∀(n:Nat) (a:Int) (x:ByteArray),a.toNat≤n→0≤a→a≤4611686018427387904→x.size+a.toNat≤4611686018427388904→∃s,Ev (fun k=>a4_.l0 k a x) s:=by
  intro n
  induction n with
  | zero =>
   intro a x hn h0 h1 hx
   refine⟨(⟨#[109]⟩:ByteArray)++x,Ev.succ ?_⟩
   simp only[a4_.l0]
   exact Ev.neg (by omega) (Ev.pos (by omega) (Ev.const rfl))
  | succ n ih =>
   intro a x hn h0 h1 hx
   by_cases hp:a > 0
   ·have hd:Int.tdiv a 10=a / 10:=Int.tdiv_eq_ediv_of_nonneg h0
    have hd2:a / 10<a:=by omega
    have hd3:0≤a / 10:=by omega
    have hsz:(strOfNums [(wrap64 (48+Int.tmod a 10)) % 256]++x).size=1+x.size:=by rw[ByteArray.size_append,strOfNums_one]
    obtain⟨s,hs⟩:=ih (a / 10) (strOfNums [(wrap64 (48+Int.tmod a 10)) % 256]++x) (by omega) hd3 (by omega) (by rw[hsz];omega)
    refine⟨s,Ev.succ ?_⟩
    simp only[a4_.l0]
    refine Ev.pos hp (Ev.cbind _ rfl (Ev.pos (by rw[strOfNums_one];omega) ?_))
    rw[hd,w64 (by omega) (by omega)]
    exact hs
   ·refine⟨(⟨#[109]⟩:ByteArray)++x,Ev.succ ?_⟩
    simp only[a4_.l0]
    exact Ev.neg hp (Ev.pos (by omega) (Ev.const rfl))
 by_cases h:a≤0
 ·refine⟨⟨#[109,48]⟩,?_⟩
  unfold a4_.f
  exact Ev.pos h (Ev.const rfl)
 ·obtain⟨s,hs⟩:=main a.toNat a ⟨#[]⟩ (Nat.le_refl _) h0 h1 (by have:(⟨#[]⟩:ByteArray).size=0:=rfl;omega)
  refine⟨s,?_⟩
  unfold a4_.f
  exact Ev.neg h hs
def marks (a:Int):Nat→List Int
 | 0=>[]
 | n+1=>a::marks (a+1) n
theorem marks_length (a:Int) (n:Nat):(marks a n).length=n:=by
 induction n generalizing a with
 | zero=>rfl
 | succ n ih=>simp[marks,ih]
theorem marks_snoc (a:Int) (n:Nat):marks a (n+1)=marks a n++[a+n]:=by
 induction n generalizing a with
 | zero=>simp[marks]
 | succ n ih =>
  rw[marks,ih (a+1)]
  simp[marks]
  omega
theorem markIntS_eq (l:List Int) (a:Int) (hl:l.length≤1073741824) (h0:0≤a) (h1:a≤4611686018427387904):Ev (fun k=>bU_.f k l a) (a+l.length,marks a l.length):=by
 unfold bU_.f
 refine Ev.congr (fun k=>rfl) (a1_ l (fun k (s:Int × List Int) i=>bU_.l0 k s.2 s.1 i) (fun s _=>(a+l.length,marks a l.length)) (fun p s=>s.1=a+p.length∧∃q,s.2=marks a p.length++q∧s.2.length=l.length) ?_ ?_ (a,l) ⟨by simp,l,by simp[marks],rfl⟩)
 ·rintro⟨b,s⟩ ⟨hb,q,hs,hq⟩
  simp only at hb hs hq
  subst hb hs
  apply Ev.succ
  simp only[bU_.l0]
  have:q=[]:=List.eq_nil_of_length_eq_zero (by simpa[marks_length] using hq)
  refine Ev.neg (by omega) (Ev.const ?_)
  simp[this]
 ·rintro p x t ⟨b,s⟩ e ⟨hb,q,hs,hq⟩ ih
  simp only at hb hs hq
  subst hb hs
  have hm:=a7_ e
  cases q with
  | nil=>simp[marks_length] at hq;omega
  | cons y q =>
   apply Ev.succ
   simp only[bU_.l0]
   refine Ev.pos (by omega) (Ev.pos (by omega) ?_)
   rw[w64 (by omega) (by omega),w64 (by omega) (by omega)]
   have e2:(marks a p.length++y::q).set ((p.length:Int)).toNat (a+p.length)=marks a (p.length+1)++q:=by
    have:=set_mid (marks a p.length) q (a+p.length) y
    rw[marks_length] at this
    rw[this,marks_snoc]
   rw[e2]
   exact ih (a+p.length+1,marks a (p.length+1)++q) ⟨by simp;omega,q,by simp,by simp[marks_length] at hq ⊢;omega⟩
theorem heldIntS_eq (n:Nat) (a:Int) (hl:n≤1073741824) (h0:0≤a) (h1:a≤4611686018427387904):Ev (fun k=>b3_.f k (marks a n) a) (a+n):=by
 unfold b3_.f
 refine Ev.eq_ (a1_ (marks a n) (fun k s i=>b3_.l0 k (marks a n) s i) (fun s t=>a+n) (fun p s=>s=a+p.length) ?_ ?_ a (by simp)) rfl
 ·intro s hs
  apply Ev.succ
  simp only[b3_.l0]
  refine Ev.neg (by omega) (Ev.const ?_)
  rw[hs,marks_length]
 ·intro p x t s e hs ih
  have hm:=a7_ e
  have hx:x=a+p.length:=by
   have h2:(marks a n)[p.length]? = some x:=by rw[e];simp
   have h3:∀(n:Nat) (a:Int) (j:Nat),j<n→(marks a n)[j]? = some (a+j):=by
    intro n
    induction n with
    | zero=>intro a j hj;omega
    | succ n ih =>
     intro a j hj
     cases j with
     | zero=>simp[marks]
     | succ j=>simp only[marks,List.getElem?_cons_succ];rw[ih (a+1) j (by omega)];simp;omega
   rw[h3 n a p.length (by rw[marks_length] at hm;omega)] at h2
   exact(Option.some.inj h2).symm
  rw[marks_length] at hm
  apply Ev.succ
  simp only[b3_.l0,rd_mid' e]
  refine Ev.pos (by rw[marks_length];omega) (Ev.pos (by omega) (Ev.pos (by rw[hs,hx]) ?_))
  rw[w64 (by omega) (by omega),w64 (by omega) (by omega)]
  exact ih _ (by rw[hs];simp;omega)
theorem mark_listQ {α:Type} (Q:α→Prop) (c:Int) (hc:0≤c) (F:Nat→List α→Int→Int→Option (Int × List α)) (H:Nat→List α→Int→Int→Option Int) (M:Int)
  (hF0:∀l a,Ev (fun k=>F k l a (l.length:Int)) (a,l)) (hH0:∀l a,Ev (fun k=>H k l a (l.length:Int)) a)
  (h1:∀p x t a,Q x→(p++x::t).length≤1048576→0≤a→a≤M→∃x' a',a≤a'∧a'≤a+c ∧
   (∀r,Ev (fun k=>F k (p++x'::t) a' ((p.length:Int)+1)) r→Ev (fun k=>F k (p++x::t) a (p.length:Int)) r) ∧
   (∀s r,(p++x'::s).length≤1048576→Ev (fun k=>H k (p++x'::s) a' ((p.length:Int)+1)) r→Ev (fun k=>H k (p++x'::s) a (p.length:Int)) r))
  (l:List α) (hQ:∀x∈l,Q x) (hl:l.length≤1048576) (a:Int) (ha:0≤a) (hM:a+c * l.length≤M) :
  ∃r l',Ev (fun k=>F k l a 0) (r,l')∧Ev (fun k=>H k l' a 0) r∧l'.length=l.length∧a≤r∧r≤a+c * l.length:=by
 have main:∀(t p:List α) (a:Int),(∀x∈t,Q x)→(p++t).length≤1048576→0≤a→a+c * t.length≤M→∃r t',Ev (fun k=>F k (p++t) a (p.length:Int)) (r,p++t')∧Ev (fun k=>H k (p++t') a (p.length:Int)) r∧t'.length=t.length∧a≤r∧r≤a+c * t.length:=by
  intro t
  induction t with
  | nil =>
   intro p a _ hp ha hM
   refine⟨a,[],?_,?_,rfl,Int.le_refl _,by simp⟩
   ·simpa using hF0 p a
   ·simpa using hH0 p a
  | cons x t ih =>
   intro p a hq hp ha hM
   have e1:c * (((x::t).length:Nat):Int)=c * (t.length:Int)+c:=by
    simp only[List.length_cons]
    rw[show(((t.length+1:Nat)):Int)=(t.length:Int)+1 from by omega,Int.mul_add]
    omega
   have e0:0≤c * (t.length:Int):=Int.mul_nonneg hc (by omega)
   rw[e1] at hM ⊢
   obtain⟨x',a',b1,b2,b3,b4⟩:=h1 p x t a (hq x (by simp)) hp ha (by omega)
   obtain⟨r,t',c1,c2,c3,c4,c5⟩:=ih (p++[x']) a' (fun y hy=>hq y (by simp[hy])) (by simpa using hp) (by omega) (by omega)
   refine⟨r,x'::t',b3 _ (by simpa using c1),b4 _ _ (by simp at hp ⊢;omega) (by simpa using c2),by simp[c3],by omega,by omega⟩
 simpa using main l [] a hQ (by simpa using hl) ha (by simpa using hM)
theorem eqInts_eq (l:List Int) (hl:l.length≤1048576):Ev (fun k=>ci_.f k l l) true:=by
 unfold ci_.f
 refine Ev.pos rfl ?_
 refine a1_ l (fun k (_:Unit) i=>ci_.l0 k l l i) (fun _ _=>true) (fun _ _=>True) ?_ ?_ () trivial
 ·intro _ _
  apply Ev.succ
  simp only[ci_.l0]
  exact Ev.neg (by omega) (Ev.const rfl)
 ·intro p x t s e _ ih
  have hm:=a7_ e
  apply Ev.succ
  simp only[ci_.l0]
  refine Ev.pos hm.1 (Ev.pos (by omega) (Ev.pos hm.1 (Ev.pos trivial ?_)))
  rw[w64 (by omega) (by omega)]
  exact ih () trivial
theorem eqGaps_eq' (l:List aD_) (hl:l.length≤1048576) (hs:∀x∈l,x.f2.length≤1048576):Ev (fun k=>bs_.f k l l) true:=by
 unfold bs_.f
 refine Ev.pos rfl (eq_list l (fun k i=>bs_.l0 k l l i) ?_ ?_)
 ·apply Ev.succ
  simp only[bs_.l0]
  exact Ev.neg (by omega) (Ev.const rfl)
 ·intro p x t e h
  have hm:=a7_ e
  have hx:=hs x (cF_ e)
  apply Ev.succ
  simp only[bs_.l0,af_,bP_ e]
  rw[w64 (i:=(p.length:Int)+1) (by omega) (by omega)]
  have hg:Ev (fun k=>laws_eqGap.f k x.f0 x.f1 x.f2 x.f0 x.f1 x.f2) true:=by
   unfold laws_eqGap.f
   exact Ev.pos rfl (Ev.pos rfl (Ev.bind' _ (eqInts_eq x.f2 (by omega)) (Ev.aK_ (Ev.const rfl))))
  exact Ev.pos hm.1 (Ev.pos (by omega) (Ev.pos hm.1 (Ev.bind' _ hg (Ev.aK_ h))))
theorem eqGaps_eq (l:List aD_) (hl:l.length≤1048576) (hs:∀x∈l,x.f2.length≤1000):Ev (fun k=>bs_.f k l l) true:=eqGaps_eq' l hl (fun x hx=>Nat.le_trans (hs x hx) (by decide))
theorem markGapS_eq' (l:List aD_) (hl:l.length≤1048576) (hs:∀x∈l,x.f2.length≤1048576) (a:Int) (ha:0≤a) (hb:a≤1073741824):∃r l',Ev (fun k=>aW_.f k l a) (r,l')∧Ev (fun k=>aR_.f k l' a) r∧l'.length=l.length∧a≤r:=by
 unfold aW_.f aR_.f
 suffices h:∃r l',Ev (fun k=>aW_.l0 k l a 0) (r,l')∧Ev (fun k=>aR_.l0 k l' a 0) r∧l'.length=l.length∧a≤r∧r≤a+1048578 * l.length by
  obtain⟨r,l',h1,h2,h3,h4,_⟩:=h
  exact⟨r,l',h1,h2,h3,h4⟩
 refine mark_listQ (fun x:aD_=>x.f2.length≤1048576) 1048578 (by omega) (fun k l a i=>aW_.l0 k l a i) (fun k l a i=>aR_.l0 k l a i) 4611686018427380000 ?_ ?_ ?_ l hs hl a ha (by omega)
 ·intro l a
  apply Ev.succ
  simp only[aW_.l0]
  exact Ev.neg (by omega) (Ev.const rfl)
 ·intro l a
  apply Ev.succ
  simp only[aR_.l0]
  exact Ev.neg (by omega) (Ev.const rfl)
 ·intro p x t a hx hp ha hb
  obtain⟨s,hs⟩:=markText_eq a ha (by omega)
  obtain⟨s2,hs2⟩:=markText_eq (a+1) (by omega) (by omega)
  have hi:=markIntS_eq x.f2 (a+1+1) (by omega) (by omega) (by omega)
  have hh:=heldIntS_eq x.f2.length (a+1+1) (by omega) (by omega) (by omega)
  refine⟨⟨s,s2,marks (a+1+1) x.f2.length⟩,a+1+1+x.f2.length,by omega,by omega,?_,?_⟩
  ·intro r h
   have hm:=a7_ (l:=p++x::t) rfl
   apply Ev.succ
   simp only[aW_.l0,af_,bP_ rfl]
   rw[w64 (i:=(p.length:Int)+1) (by omega) (by omega),w64 (i:=a+1) (by omega) (by omega),w64 (i:=a+1+1) (by omega) (by omega)]
   refine Ev.pos hm.1 (Ev.pos (by omega) (Ev.bind' _ hs (Ev.bind' _ hs2 (Ev.bind' _ hi ?_))))
   simp only[set_mid,List.append_assoc,List.cons_append,List.nil_append]
   exact h
  ·intro q r hq h
   have hm:=a7_ (l:=p++(⟨s,s2,marks (a+1+1) x.f2.length⟩:aD_)::q) rfl
   apply Ev.succ
   simp only[aR_.l0,af_,bP_ rfl]
   rw[w64 (i:=(p.length:Int)+1) (by omega) (by omega),w64 (i:=a+1) (by omega) (by omega),w64 (i:=a+1+1) (by omega) (by omega)]
   exact Ev.pos hm.1 (Ev.pos (by omega) (Ev.bind' _ hs (Ev.pos (by trivial) (Ev.bind' _ hs2 (Ev.pos (by trivial) (Ev.bind' _ hh (Ev.neg (by omega) h)))))))
theorem markGapS_eq (l:List aD_) (hl:l.length≤1048576) (hs:∀x∈l,x.f2.length≤1000) (a:Int) (ha:0≤a) (hb:a≤1073741824):∃r l',Ev (fun k=>aW_.f k l a) (r,l')∧Ev (fun k=>aR_.f k l' a) r∧l'.length=l.length∧a≤r:=markGapS_eq' l hl (fun x hx=>Nat.le_trans (hs x hx) (by decide)) a ha hb
theorem markRecordS_eq (l:List aa_) (hl:l.length≤1048576) (a:Int) (ha:0≤a) (hb:a≤1073741824):∃r l',Ev (fun k=>bo_.f k l a) (r,l')∧l'.length=l.length∧a≤r∧r≤a+4 * l.length:=by
 unfold bo_.f
 refine(mark_list 4 (by omega) (fun k l a i=>bo_.l0 k l a i) (fun _ l a i=>some (a+4 * ((l.length:Int) - i))) 4294967296 ?_ ?_ ?_ l hl a ha (by omega)).elim (fun r_ q_=>q_.elim (fun l_ q=>⟨r_,l_,q.1,q.2.2⟩))
 ·intro l a
  apply Ev.succ
  simp only[bo_.l0]
  exact Ev.neg (by omega) (Ev.const rfl)
 ·intro l a
  exact Ev.const (by simp)
 ·intro p x t a hp ha hb
  obtain⟨s,hs⟩:=markText_eq a ha (by omega)
  obtain⟨s2,hs2⟩:=markText_eq (a+1+1+1) (by omega) (by omega)
  refine⟨⟨s,a+1,a+1+1,s2⟩,a+4,by omega,by omega,?_,?_⟩
  ·intro r h
   have hm:=a7_ (l:=p++x::t) rfl
   have e4:a+1+1+1+1=a+4:=by omega
   apply Ev.succ
   simp only[bo_.l0]
   rw[w64 (i:=(p.length:Int)+1) (by omega) (by omega),w64 (i:=a+1) (by omega) (by omega),w64 (i:=a+1+1) (by omega) (by omega),w64 (i:=a+1+1+1) (by omega) (by omega),w64 (i:=a+1+1+1+1) (by omega) (by omega)]
   refine Ev.pos hm.1 (Ev.bind' _ hs (Ev.pos (by omega) (Ev.cbind _ rfl (Ev.cbind _ rfl (Ev.cbind _ rfl (Ev.bind' _ hs2 ?_))))))
   simp only[a_,set_mid,List.append_assoc,List.cons_append,List.nil_append,bP_ rfl]
   rw[e4]
   exact h
  ·intro q r hq h
   have e_:a+4+4 * (((p++(⟨s,a+1,a+1+1,s2⟩:aa_)::q).length:Int) - ((p.length:Int)+1))=a+4 * (((p++(⟨s,a+1,a+1+1,s2⟩:aa_)::q).length:Int) - (p.length:Int)):=by omega
   rw[e_] at h
   exact h
theorem markZone_eq (s:ByteArray) (c:Int) (l:List aa_) (hl:l.length≤1048576) (a:Int) (ha:0≤a) (hb:a≤1073741824):∃r l',Ev (fun k=>laws_markZone.f k s c l a) (r,l')∧a≤r∧r≤a+4 * l.length:=by
 obtain⟨r,l',x1,x3,x4,x5⟩:=markRecordS_eq l hl a ha hb
 refine⟨r,l',?_,x4,x5⟩
 unfold laws_markZone.f
 exact Ev.bind' _ x1 (Ev.const rfl)
def cRec (x:bj_):aa_:=⟨x.f0,x.f1,x.f2,x.f3⟩
theorem szRecordS_eq (l:List bj_) (h:l.length≤maxLen∧∀x∈l,WF_LRecord x) (a:Int) (h0:0≤a) (h1:a≤1048576):Szd (fun k=>bO_.f k l a) a (l.length≤1048576∧∀x∈l,x.f0.size≤1048576∧x.f3.size≤1048576):=by
 have hm:maxLen=9223372036854775807:=rfl
 unfold bO_.f
 by_cases hl:l.length≤1048576
 ·refine Szd.size _ (by omega) h0 h1 (fun a' e ha hb=>?_)
  rw[e]
  refine Szd.list l hl (fun k a i=>bO_.l0 k l a i) (fun x=>x.f0.size≤1048576∧x.f3.size≤1048576) ?_ ?_ a' ha hb
  ·intro a ha hb
   refine⟨a,Ev.succ ?_,Or.inr ⟨ha,Int.le_refl _,trivial⟩⟩
   simp only[bO_.l0]
   exact Ev.neg (by omega) (Ev.const rfl)
  ·intro p x t a e ha hb _ C hC
   have hm2:=a7_ e
   have hx:=h.2 x (cF_ e)
   have hel:Szd (fun _:Nat=>laws_szRecord.f x.f0 x.f1 x.f2 x.f3 a) a (x.f0.size≤1048576∧x.f3.size≤1048576):=by
    unfold laws_szRecord.f
    refine(Szd.size _ (by have:=hx.1;omega) ha hb (fun a' e2 ha' hb'=>?_))
    rw[e2]
    exact(Szd.size _ (by have:=hx.2.2.2;omega) ha' hb' (fun a'' e3 ha'' hb''=>by rw[e3];exact Szd.end_ ha'')).mono (fun h=>h.1)
   obtain⟨r,hr,hh⟩:=Szd.cbind (g:=fun k t=>bO_.l0 k l t ((p.length:Int)+1)) hel hb (fun r h3 h4=>hC r h3 h4)
   refine⟨r,Ev.succ ?_,hh⟩
   simp only[bO_.l0,a5_,bP_ e]
   rw[w64 (i:=(p.length:Int)+1) (by omega) (by omega)]
   exact Ev.pos hm2.1 (Ev.pos (by omega) hr)
 ·have:=h.1
  refine⟨-1,Ev.pos ?_ (Ev.const rfl),Or.inl (by omega)⟩
  rw[w64 (by omega) (by omega)]
  omega
theorem toRecordS_eq (l:List bj_) (hl:l.length≤1048576):Ev (fun k=>bN_.f k l) (l.map cRec):=by
 unfold bN_.f
 refine Ev.pos (by omega) (Ev.pos (by simp;omega) ?_)
 refine to_list l cRec (fun k s i=>bN_.l0 k l s i) ?_ ?_ _ (by simp)
 ·intro s
  apply Ev.succ
  simp only[bN_.l0]
  exact Ev.neg (by omega) (Ev.const rfl)
 ·intro p x t s r e hs h
  have hm:=a7_ e
  apply Ev.succ
  simp only[bN_.l0,a5_,bP_ e]
  rw[w64 (i:=(p.length:Int)+1) (by omega) (by omega)]
  exact Ev.pos hm.1 (Ev.pos (by omega) (Ev.cbind _ rfl (Ev.pos (by omega) h)))
theorem eqRecord_eq (a:ByteArray) (b c:Int) (d:ByteArray):laws_eqRecord.f a b c d a b c d=some true:=by
 unfold laws_eqRecord.f
 simp
theorem eqRecordS_eq (l:List aa_) (hl:l.length≤1048576):Ev (fun k=>bd_.f k l l) true:=by
 unfold bd_.f
 refine Ev.pos rfl (eq_list l (fun k i=>bd_.l0 k l l i) ?_ ?_)
 ·apply Ev.succ
  simp only[bd_.l0]
  exact Ev.neg (by omega) (Ev.const rfl)
 ·intro p x t e h
  have hm:=a7_ e
  apply Ev.succ
  simp only[bd_.l0]
  rw[w64 (i:=(p.length:Int)+1) (by omega) (by omega)]
  exact Ev.pos hm.1 (Ev.pos (by omega) (Ev.pos hm.1 (Ev.cbind _ (eqRecord_eq _ _ _ _) (Ev.aK_ h))))
theorem szZone_eq (a:ByteArray) (c:Int) (l:List bj_) (ha:a.size≤maxLen) (hl:l.length≤maxLen∧∀x∈l,WF_LRecord x) (n:Int) (h0:0≤n) (h1:n≤1048576) :
  Szd (fun k=>laws_szZone.f k a c l n) n (a.size≤1048576∧l.length≤1048576∧∀x∈l,x.f0.size≤1048576∧x.f3.size≤1048576):=by
 unfold laws_szZone.f
 have hm:a.size≤9223372036854775807:=ha
 refine Szd.size a.size hm h0 h1 (fun r hr h2 h3=>?_)
 rw[hr]
 exact(Szd.bind (szRecordS_eq l hl r h2 h3) h3 (fun q h4 h5=>Szd.end_ h4)).mono (fun h=>h.1)
theorem toZone_eq (a:ByteArray) (c:Int) (l:List bj_) (hl:l.length≤1048576):Ev (fun k=>laws_toZone.f k a c l) (a,c,l.map cRec):=by
 unfold laws_toZone.f
 exact Ev.bind' _ (toRecordS_eq l hl) (Ev.const rfl)
theorem eqZone_eq (a:ByteArray) (c:Int) (l:List aa_) (hl:l.length≤1048576):Ev (fun k=>laws_eqZone.f k a c l a c l) true:=by
 unfold laws_eqZone.f
 exact Ev.pos rfl (Ev.pos rfl (Ev.bind' _ (eqRecordS_eq l hl) (Ev.aK_ (Ev.const rfl))))
theorem szR_map' {l:List bj_} (h:∀x∈l,x.f0.size≤1048576∧x.f3.size≤1048576):∀r∈l.map cRec,szR r:=by
 intro r hr
 obtain⟨x,hx,rfl⟩:=List.mem_map.mp hr
 exact h x hx
end Go.Proofs.YtldinehdhmbkmaaGreatDoor.PL
end
section
set_option linter.unusedVariables false
set_option linter.unusedSimpArgs false
namespace Go.Proofs.YtldinehdhmbkmaaGreatDoor.Pure
open Go.RowKit Go.Proofs.YtldinehdhmbkmaaGreatDoor.Pp Go.Proofs.YtldinehdhmbkmaaGreatDoor.PB Go.Proofs.YtldinehdhmbkmaaGreatDoor.PL Go.Proofs.YtldinehdhmbkmaaGreatDoorW.PrintWords Go.Proofs.YtldinehdhmbkmaaGreatDoorW.PrintLast
theorem FnExactProveAbsent:ab_.Pure:=by
 intro a c l x ha _ hl hx
 refine Ev.get (g:=fun k=>ab_.f k a c l x) ?_
 unfold ab_.f
 by_cases hxs:(x.size:Int) > 1048576
 ·exact Ev.pos hxs (Ev.const rfl)
 refine Ev.neg hxs ?_
 have hx2:x.size≤1048576:=by omega
 obtain⟨t,ht,hs⟩:=szZone_eq a c l ha hl 1048576 (by omega) (by omega)
 refine Ev.bind' _ ht ?_
 rcases hs with hs|⟨hs,hs',l0,l1,l2⟩
 ·exact Ev.pos hs (Ev.const rfl)
 ·have hta:=toZone_eq a c l l1
  have g1:(l.map cRec).length≤1048576:=by simpa using l1
  have hsp:=specProve_eq a c _ l0 g1 (szR_map' l2) x hx2
  have him:=implProve_eq a c _ l0 g1 (szR_map' l2) x hx2
  obtain⟨q1,q2⟩:=provR_small a c (l.map cRec) x
  generalize provR a c (l.map cRec) x=R at hsp him q1 q2
  have heq:=eqGaps_eq R.1 q1 q2
  have hea:=eqZone_eq a c _ g1
  obtain⟨r1,u1,a1,a2,a3⟩:=markZone_eq a c _ g1 1 (by omega) (by omega)
  obtain⟨r2,u2,b1,b2,b3,b4⟩:=markGapS_eq R.1 q1 q2 1 (by omega) (by omega)
  exact Ev.neg (by omega) (Ev.bind' _ hta (Ev.bind' _ hsp (Ev.bind' _ him (Ev.bind' _ heq (Ev.aK_ (Ev.pos rfl (Ev.bind' _ hea (Ev.aK_ (Ev.bind' _ a1 (Ev.neg (by omega) (Ev.bind' _ b1 (Ev.bind' _ b2 (Ev.neg (by omega) (Ev.pos rfl (Ev.neg (by omega) (Ev.const rfl))))))))))))))))
end Go.Proofs.YtldinehdhmbkmaaGreatDoor.Pure
end
