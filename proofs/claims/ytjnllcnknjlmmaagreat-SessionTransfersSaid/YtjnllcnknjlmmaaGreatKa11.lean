/- Layer 41. -/
import Derived.MapKept
import Derived.Maps.RangeRun
import Derived.Test.YtjnllcnknjlmmaaGreatKa10
set_option linter.unusedSimpArgs false
set_option linter.unusedVariables false
set_option maxRecDepth 100000
set_option maxHeartbeats 4000000
namespace Go.Proofs.YtjnllcnknjlmmaaGreat
open Go Go.RowKit
namespace Se
open Li (Fr)
open Go.ChangeMaps (setBlock)
abbrev Ps:=List (Int × Value)
def getP(l:Ps)(z:Int):Option Value:=(l.find? (·.1==z)).map (·.2)
def putP(l:Ps)(z:Int)(v:Value):Ps:=if l.any (·.1==z) then l.map (fun p=>if p.1==z then (z,v) else p) else l++[(z,v)]
def delP(l:Ps)(z:Int):Ps:=l.filter (fun p => !(p.1==z))
def kyI:Value->Int
 | .int _ z=>z
 | _=>0
def prE(e:MapEntry):Int × Value:=(kyI e.key,e.val)
def MP(w:World)(g:Nat)(kd:IntKind)(l:Ps):Prop:=∃ es c,w.heap[g]? = some (.map es c)/\MapKept.Stamped es c/\(∀ x∈es.toList,MapKept.IsKey (.int kd) x.key)/\l=es.toList.map prE
theorem MP.lt{w:World}{g:Nat}{kd:IntKind}{l:Ps}(h:MP w g kd l):g<w.heap.size:=by
 obtain⟨es,c,h,_⟩:=h
 exact(Array.getElem?_eq_some_iff.1 h).1
theorem MP.mono{w w':World}{g:Nat}{kd:IntKind}{l:Ps}(h:MP w g kd l)(e:w'.heap[g]? = w.heap[g]?):MP w' g kd l:=by
 obtain⟨es,c,h1,h2⟩:=h
 exact⟨es,c,by rw[e];exact h1,h2⟩
def mp(g:Nat)(kd:IntKind)(l:Ps):At:=.abs [g] (fun w=>MP w g kd l)
 (fun w h b hb=>by simp only[List.mem_singleton] at hb;subst hb;exact h.lt)
 (fun w w' h hb=>h.mono (hb g (by simp)))
theorem key_of{kd:IntKind}{v:Value}(h:MapKept.IsKey (.int kd) v):v=.int kd (kyI v):=by
 cases v <;> simp_all [MapKept.IsKey,kyI]
theorem nodup_keys{es:Array MapEntry}{c:Nat}{kd:IntKind}(hs:MapKept.Stamped es c)(hk:∀ x∈es.toList,MapKept.IsKey (.int kd) x.key):(es.toList.map (fun e=>(prE e).1)).Nodup:=by
 obtain⟨_,_,h3⟩:=hs
 have e:es.toList.map (·.key)=(es.toList.map (fun e=>(prE e).1)).map (Value.int kd):=by
  rw[List.map_map];exact List.map_congr_left fun x hx=>key_of (hk x hx)
 rw[e] at h3;unfold List.Nodup at h3 ⊢;rw[List.pairwise_map] at h3;exact h3.imp fun h e=>h (by rw[e])
theorem MP.nodup{w:World}{g:Nat}{kd:IntKind}{l:Ps}(h:MP w g kd l):(l.map (·.1)).Nodup:=by
 obtain⟨es,c,_,h2,h3,rfl⟩:=h
 rw[List.map_map];exact nodup_keys h2 h3
theorem getP_at:∀ {l:Ps} {j:Nat} {z:Int} {v:Value},(l.map (·.1)).Nodup->l[j]? = some (z,v)->getP l z=some v
 | [],_,_,_,_,h=>by simp at h
 | (a,b)::l,0,z,v,_,h=>by
  simp only[List.getElem?_cons_zero,Option.some.injEq,Prod.mk.injEq] at h
  obtain⟨rfl,rfl⟩:=h
  simp[getP]
 | (a,b)::l,j+1,z,v,hn,h=>by
  simp only[List.getElem?_cons_succ] at h;simp only[List.map_cons,List.nodup_cons] at hn
  have hne:a≠z:=fun e=>hn.1 (e ▸ List.mem_map.2 ⟨_,List.mem_of_getElem? h,rfl⟩)
  have:=getP_at hn.2 h
  unfold getP at this ⊢;rw[List.find?_cons_of_neg (by simpa using hne)];exact this
theorem getP_none{l:Ps}{z:Int}(h:∀ p∈l,p.1≠z):getP l z=none:=by
 unfold getP;rw[Option.map_eq_none_iff,List.find?_eq_none];intro p hp;simpa using h p hp
theorem putP_at:∀ {l:Ps} {j:Nat} {z:Int} {u:Value} (v:Value),(l.map (·.1)).Nodup->l[j]? = some (z,u)->l.set j (z,v)=l.map (fun p=>if p.1==z then (z,v) else p)
 | [],_,_,_,_,_,h=>by simp at h
 | (a,b)::l,0,z,u,v,hn,h=>by
  simp only[List.getElem?_cons_zero,Option.some.injEq,Prod.mk.injEq] at h
  obtain⟨rfl,rfl⟩:=h
  simp only[List.map_cons,List.nodup_cons] at hn;simp only[List.set_cons_zero,List.map_cons,beq_self_eq_true,if_true,List.cons.injEq,true_and]
  have e:l.map (fun p=>if p.1==a then (a,v) else p)=l.map id:=List.map_congr_left fun p hp=>by
   have:p.1≠a:=fun e=>hn.1 (e ▸ List.mem_map.2 ⟨_,hp,rfl⟩)
   simp[this]
  rw[e,List.map_id]
 | (a,b)::l,j+1,z,u,v,hn,h=>by
  simp only[List.getElem?_cons_succ] at h;simp only[List.map_cons,List.nodup_cons] at hn
  have hne:a≠z:=fun e=>hn.1 (e ▸ List.mem_map.2 ⟨_,List.mem_of_getElem? h,rfl⟩)
  rw[List.set_cons_succ,List.map_cons,putP_at v hn.2 h];simp[hne]
theorem delP_at:∀ {l:Ps} {j:Nat} {z:Int} {u:Value},(l.map (·.1)).Nodup->l[j]? = some (z,u)->l.eraseIdx j=delP l z
 | [],_,_,_,_,h=>by simp at h
 | (a,b)::l,0,z,u,hn,h=>by
  simp only[List.getElem?_cons_zero,Option.some.injEq,Prod.mk.injEq] at h
  obtain⟨rfl,rfl⟩:=h
  simp only[List.map_cons,List.nodup_cons] at hn;unfold delP;rw[List.eraseIdx_cons_zero,List.filter_cons_of_neg (by simp)];refine(List.filter_eq_self.2 fun p hp=>?_).symm
  have:p.1≠a:=fun e=>hn.1 (e ▸ List.mem_map.2 ⟨_,hp,rfl⟩)
  simpa using this
 | (a,b)::l,j+1,z,u,hn,h=>by
  simp only[List.getElem?_cons_succ] at h;simp only[List.map_cons,List.nodup_cons] at hn
  have hne:a≠z:=fun e=>hn.1 (e ▸ List.mem_map.2 ⟨_,List.mem_of_getElem? h,rfl⟩)
  have:=delP_at hn.2 h
  unfold delP at this ⊢;rw[List.eraseIdx_cons_succ,List.filter_cons_of_pos (by simpa using hne),this]
theorem erase_map{α β:Type}(f:α->β):∀ (l:List α) (j:Nat),(l.map f).eraseIdx j=(l.eraseIdx j).map f
 | [],_=>rfl
 | a::l,0=>rfl
 | a::l,j+1=>by rw[List.map_cons,List.eraseIdx_cons_succ,List.eraseIdx_cons_succ,List.map_cons,erase_map f l j]
theorem delP_none{l:Ps}{z:Int}(h:∀ p∈l,p.1≠z):delP l z=l:=List.filter_eq_self.2 fun p hp=>by simpa using h p hp
theorem putP_none{l:Ps}{z:Int}(v:Value)(h:∀ p∈l,p.1≠z):putP l z v=l++[(z,v)]:=by
 unfold putP;rw[if_neg];simp only[List.any_eq_true,beq_iff_eq,not_exists,not_and];exact h
theorem putP_some{l:Ps}{j:Nat}{z:Int}{u:Value}(v:Value)(hn:(l.map (·.1)).Nodup)(h:l[j]? = some (z,u)):putP l z v=l.set j (z,v):=by
 unfold putP;rw[if_pos,putP_at v hn h];simp only[List.any_eq_true,beq_iff_eq];exact⟨_,List.mem_of_getElem? h,rfl⟩
section
variable {P:Program} {w0 w:World} {X:List Nat} {L:List At} {o:Oper} {a:Act} {G:Value->World->Prop}
theorem find_mp{es:Array MapEntry}{c:Nat}{kd:IntKind}{z:Int}(hs:MapKept.Stamped es c)(hk:∀ x∈es.toList,MapKept.IsKey (.int kd) x.key) :
  (Instr.findNow (.int kd) (.int kd z) es.toList 0=some none/\(∀ x∈es.toList,x.key≠.int kd z)/\∀ p∈es.toList.map prE,p.1≠z) \/
  ∃ j e,Instr.findNow (.int kd) (.int kd z) es.toList 0=some (some (j,e.val))/\es.toList[j]? = some e/\e.key=.int kd z/\(es.toList.map prE)[j]? = some (z,e.val):=by
 rcases MapKept.findNow_spec (show MapKept.IsKey (.int kd) (.int kd z) by simp[MapKept.IsKey]) es.toList 0 hk with ⟨h1,h2⟩|⟨j,e,h1,h2,h3⟩
 ·refine .inl ⟨h1,h2,fun p hp e=>?_⟩
  obtain⟨x,hx,rfl⟩:=List.mem_map.1 hp
  apply h2 x hx
  rw[key_of (hk x hx)];exact congrArg _ e
 ·refine .inr ⟨j,e,by rw[h1,Nat.zero_add],h2,h3,?_⟩
  rw[List.getElem?_map,h2];simp[prE,h3,kyI]
theorem mmk(hs:St w0 X L w){ty:TypeId}(kd:IntKind)(ho:o.op=.makeMap ty none)
  (h:∀ (w':World) (g:Nat),g=w.heap.size->St w0 X (mp g kd []::L) w'->G (.map (some g)) w'):Hv.Gives P o a w G:=by
 have hr:(Instr.makeMap ty none).run P w=.ok (.map (some w.heap.size)) (w.alloc (.map #[] 0)):=by
  simp[Instr.makeMap,Result.andThen]
 unfold Hv.Gives execOp;simp only[ho,Option.map_none,Sem.run_bind,hr,Result.andThen_ok,Sem.run_pure];refine h _ _ rfl ?_;refine St.turn (P:=[]) (P':=[mp w.heap.size kd []]) hs (Fr.ext (Hv.Ext.alloc _ _)) ?_ (by simp[At.noRd,mp]) (by simp[ownedL,At.owned,mp]) (by simp[ownedL,At.owned,mp]);simp only[List.mem_singleton,forall_eq,At.holds,mp];exact⟨#[],0,(MapKept.heap_alloc w _).1,MapKept.stamped_empty 0,by simp,rfl⟩
theorem mlk(hs:St w0 X L w){ty:TypeId}{m x:Operand}{ok:Bool}(ho:o.op=.lookup ty m x ok){g:Nat}(hm:a.eval m=.map (some g)){kd:IntKind}{z:Int}(hx:a.eval x=.int kd z){l:Ps}(hk:mp g kd l∈L){kt et:TypeId}(ht:P.underlying ty=some (.map kt et))(hd:P.underlying kt=some (.int kd)){zv:Value}(hz:(P.info? et).bind (·.zero)=some zv)
  (h:G (if ok then .tuple #[(getP l z).getD zv,.bool (getP l z).isSome] else (getP l z).getD zv) w):Hv.Gives P o a w G:=by
 obtain⟨es,c,hb,hst,hks,rfl⟩:MP w g kd l:=hs.hold _ hk
 have hik:MapKept.IsKey (.int kd) (.int kd z):=by simp[MapKept.IsKey]
 cases hi:P.info? et with
 | none=>simp[hi] at hz
 | some i =>
  simp only[hi,Option.bind_some] at hz
  have hr:(Instr.lookup ty (.map (some g)) (.int kd z) ok).run P w=.ok (if ok then .tuple #[(getP (es.toList.map prE) z).getD zv,.bool (getP (es.toList.map prE) z).isSome] else (getP (es.toList.map prE) z).getD zv) w:=by
   rcases find_mp (z:=z) hst hks with ⟨h1,h2,h3⟩|⟨j,e,h1,h2,h3,h4⟩
   ·rw[getP_none h3]
    cases ok <;> simp[Instr.lookup,run_underlying ht,MapKept.run_getObj_map hb,MapKept.run_checkKey hd hik,MapKept.run_findKey hd h1,Result.andThen,zeroValue,typeInfo,hi,hz]
   ·rw[getP_at (by rw[List.map_map];exact nodup_keys hst hks) h4]
    cases ok <;> simp[Instr.lookup,run_underlying ht,MapKept.run_getObj_map hb,MapKept.run_checkKey hd hik,MapKept.run_findKey hd h1,Result.andThen]
  unfold Hv.Gives execOp;simp only[ho,hm,hx,Sem.run_bind,hr,Result.andThen_ok,Sem.run_pure];exact h
theorem run_upd{ty:TypeId}{g:Nat}{kd:IntKind}{z:Int}{l:Ps}(hp:MP w g kd l)(v:Value){kt et:TypeId}(ht:P.underlying ty=some (.map kt et))(hd:P.underlying kt=some (.int kd)) :
  ∃ o',(Instr.mapUpdate ty (.map (some g)) (.int kd z) v).run P w=.ok () { w with heap:=w.heap.setIfInBounds g o' }/\MP { w with heap:=w.heap.setIfInBounds g o' } g kd (putP l z v)/\∀ b,b≠g->(w.heap.setIfInBounds g o')[b]? = w.heap[b]?:=by
 obtain⟨es,c,hb,hst,hks,rfl⟩:=hp
 have hik:MapKept.IsKey (.int kd) (.int kd z):=by simp[MapKept.IsKey]
 have hn:((es.toList.map prE).map (·.1)).Nodup:=by rw[List.map_map];exact nodup_keys hst hks
 rcases find_mp (z:=z) hst hks with ⟨h1,h2,h3⟩|⟨j,e,h1,h2,h3,h4⟩
 ·refine⟨.map (es.push { key:=.int kd z,val:=v,born:=c }) (c+1),by simp[Instr.mapUpdate,run_underlying ht,MapKept.run_getObj_map hb,MapKept.run_checkKey hd hik,MapKept.run_findKey hd h1,MapKept.run_setObj_map _ hb,Result.andThen],⟨_,_,(MapKept.heap_set hb).1,MapKept.stamped_push hst h2,?_,?_⟩,(MapKept.heap_set hb).2⟩
  ·intro x hx
   simp only[Array.toList_push,List.mem_append,List.mem_singleton] at hx
   rcases hx with hx|rfl
   ·exact hks x hx
   ·exact hik
  ·rw[putP_none v h3]
   simp[prE,kyI]
 ·have hj:es[j]? = some e:=by simpa using h2
  have hkey:∀ e',es[j]? = some e'->({ e' with key:=.int kd z,val:=v }:MapEntry).key=e'.key:=fun e' he'=>by rw[hj] at he';cases he';exact h3.symm
  refine⟨.map (es.modify j fun e=>{ e with key:=.int kd z,val:=v }) c,by simp[Instr.mapUpdate,run_underlying ht,MapKept.run_getObj_map hb,MapKept.run_checkKey hd hik,MapKept.run_findKey hd h1,hj,h3,MapKept.run_keyThatStays hik,MapKept.run_setObj_map _ hb,Result.andThen],⟨_,_,(MapKept.heap_set hb).1,MapKept.stamped_modify hst _ _ (fun _ _=>rfl) (fun e' _ he'=>hkey e' he'),MapKept.isKey_modify hks _ _ hkey,?_⟩,(MapKept.heap_set hb).2⟩;rw[putP_some v hn h4]
  apply List.ext_getElem?
  intro i;rw[List.getElem?_set,List.getElem?_map,List.getElem?_map,Array.getElem?_toList,Array.getElem?_toList,Array.getElem?_modify]
  by_cases hij:j=i
  ·subst hij
   simp only[if_true,hj,Option.map_some]
   have hlt:j<(es.toList.map prE).length:=(List.getElem?_eq_some_iff.1 h4).1
   rw[if_pos hlt];simp[prE,kyI]
  ·simp[hij]
theorem mup(k:Nat)(hs:St w0 X L w){ty:TypeId}{m x y:Operand}(ho:o.op=.insert ty m x y\/o.op=.mapUpdate ty m x y){g:Nat}(hm:a.eval m=.map (some g)){kd:IntKind}{z:Int}(hx:a.eval x=.int kd z){l:Ps}(hk:L[k]? = some (mp g kd l)){v:Value}(hy:a.eval y=v){kt et:TypeId}(ht:P.underlying ty=some (.map kt et))(hd:P.underlying kt=some (.int kd))
  (h:∀ w',St w0 X (L.set k (mp g kd (putP l z v))) w'->G undef w'):Hv.Gives P o a w G:=by
 subst hy
 have hp:MP w g kd l:=hs.hold _ (List.mem_of_getElem? hk)
 obtain⟨o',hr,hp',hf⟩:=run_upd (P:=P) (z:=z) hp (a.eval y) ht hd
 have hG:G undef { w with heap:=w.heap.setIfInBounds g o' }:=by
  refine h _ (St.turnAt k hk hs ⟨rfl,rfl,rfl,by simp,fun b _ hX=>?_⟩ hp' trivial (by simp[At.owned,mp]) (by simp[At.owned,mp]));exact hf b (by simpa [At.owned,mp] using hX)
 unfold Hv.Gives execOp
 rcases ho with ho|ho
 all_goals
  simp only[ho,hm,hx,Sem.run_bind,hr,Result.andThen_ok,Sem.run_pure];exact hG
theorem mdl(k:Nat)(hs:St w0 X L w){m x:Operand}{mt kt0:TypeId}(ho:o.op=.call { callee:=.builtin .delete,args:=#[m,x],argTypes:=#[mt,kt0] }){g:Nat}(hm:a.eval m=.map (some g)){kd:IntKind}{z:Int}(hx:a.eval x=.int kd z){l:Ps}(hk:L[k]? = some (mp g kd l)){kt et:TypeId}(ht:P.underlying mt=some (.map kt et))(hd:P.underlying kt=some (.int kd))
  (h:∀ w',St w0 X (L.set k (mp g kd (delP l z))) w'->G (.tuple #[]) w'):Hv.Gives P o a w G:=by
 obtain⟨es,c,hb,hst,hks,rfl⟩:MP w g kd l:=hs.hold _ (List.mem_of_getElem? hk)
 have hik:MapKept.IsKey (.int kd) (.int kd z):=by simp[MapKept.IsKey]
 have hn:((es.toList.map prE).map (·.1)).Nodup:=by rw[List.map_map];exact nodup_keys hst hks
 have hr:∃ o',(Builtin.delete_ #[mt,kt0] o.type #[.map (some g),.int kd z]).run P w=.ok (.tuple #[]) { w with heap:=w.heap.setIfInBounds g o' }/\MP { w with heap:=w.heap.setIfInBounds g o' } g kd (delP (es.toList.map prE) z):=by
  rcases find_mp (z:=z) hst hks with ⟨h1,h2,h3⟩|⟨j,e,h1,h2,h3,h4⟩
  ·refine⟨.map es c,by simp[Builtin.delete_,run_underlying ht,MapKept.run_getObj_map hb,MapKept.run_checkKey hd hik,MapKept.run_findKey hd h1,MapKept.run_setObj_map _ hb,Result.andThen],⟨_,_,(MapKept.heap_set hb).1,hst,hks,by rw[delP_none h3]⟩⟩
  ·have hsub:(es.eraseIdxIfInBounds j).toList=es.toList.eraseIdx j:=by
    unfold Array.eraseIdxIfInBounds
    split
    ·simp
    ·rename_i hlt
     rw[List.eraseIdx_of_length_le (by simpa using hlt)]
   refine⟨.map (es.eraseIdxIfInBounds j) c,by simp[Builtin.delete_,run_underlying ht,MapKept.run_getObj_map hb,MapKept.run_checkKey hd hik,MapKept.run_findKey hd h1,MapKept.run_setObj_map _ hb,Result.andThen],⟨_,_,(MapKept.heap_set hb).1,MapKept.stamped_erase hst _,?_,?_⟩⟩
   ·intro x hx
    rw[hsub] at hx;exact hks x ((List.eraseIdx_sublist _ _).subset hx)
   ·rw[hsub,<-delP_at hn h4,erase_map]
 obtain⟨o',hr,hp'⟩:=hr
 have hG:G (.tuple #[]) { w with heap:=w.heap.setIfInBounds g o' }:=by
  refine h _ (St.turnAt k hk hs ⟨rfl,rfl,rfl,by simp,fun b _ hX=>?_⟩ hp' trivial (by simp[At.owned,mp]) (by simp[At.owned,mp]));exact(MapKept.heap_set hb).2 b (by simpa [At.owned,mp] using hX)
 unfold Hv.Gives execOp;simp only[ho,resolve,invoke,builtin,Sem.run_bind,Sem.run_pure,Result.andThen_ok,List.map_toArray,List.map_cons,List.map_nil,hm,hx,hr];exact hG
end
def MI(w:World)(gi g:Nat)(kd:IntKind)(l r:Ps)(cur:Option (Int × Value)):Prop:=∃ es c since seen c0,w.heap[g]? = some (.map es c)/\w.heap[gi]? = some (.mapIter (some g) since seen c0)/\MapKept.Stamped es c/\(∀ x∈es.toList,MapKept.IsKey (.int kd) x.key)/\l=es.toList.map prE /\
 r=(leftOf es seen).toList.map prE/\since<=c0/\since<=c/\(∀ x∈es.toList,x.born<since)/\∀ p,cur=some p->∃ (seen':Array Nat) (e:MapEntry),seen=seen'.push e.born/\e∈es.toList/\prE e=p/\c0=c
def mit(gi g:Nat)(kd:IntKind)(l r:Ps)(cur:Option (Int × Value)):At:=.abs [gi,g] (fun w=>MI w gi g kd l r cur)
 (fun w h b hb=>by
  obtain⟨es,c,since,seen,c0,h1,h2,_⟩:=h
  simp only[List.mem_cons,List.not_mem_nil,or_false] at hb
  rcases hb with rfl|rfl
  ·exact(Array.getElem?_eq_some_iff.1 h2).1
  ·exact(Array.getElem?_eq_some_iff.1 h1).1)
 (fun w w' h hb=>by
  obtain⟨es,c,since,seen,c0,h1,h2,h3⟩:=h
  exact⟨es,c,since,seen,c0,by rw[hb g (by simp)];exact h1,by rw[hb gi (by simp)];exact h2,h3⟩)
theorem mit_mp{w0 w:World}{X:List Nat}{L:List At}{gi g:Nat}{kd:IntKind}{l r:Ps}{cur:Option (Int × Value)}(hs:St w0 X (mit gi g kd l r cur::L) w):St w0 X (mp g kd l::L) w:=by
 obtain⟨es,c,since,seen,c0,h1,h2,h3,h4,h5,_⟩:MI w gi g kd l r cur:=hs.hold _ List.mem_cons_self
 exact hs.abs _ _ (by simp) (by simp[At.owned,mit]) ⟨es,c,h1,h3,h4,h5⟩
theorem left_all(es:Array MapEntry):leftOf es #[]=es:=by unfold leftOf;simp
theorem left_push{es:Array MapEntry}{seen:Array Nat}{e:MapEntry}{c:Nat}{kd:IntKind}(hs:MapKept.Stamped es c)(hk:∀ x∈es.toList,MapKept.IsKey (.int kd) x.key)(he:e∈es.toList):(leftOf es (seen.push e.born)).toList.map prE=delP ((leftOf es seen).toList.map prE) (prE e).1:=by
 have h1:(leftOf es (seen.push e.born)).toList=(leftOf es seen).toList.filter (fun x => !((prE x).1==(prE e).1)):=by
  unfold leftOf;simp only[Array.toList_filter,List.filter_filter];refine List.filter_congr fun x hx=>?_
  have hb:(x.born==e.born)=((prE x).1==(prE e).1):=by
   rw[Bool.eq_iff_iff,beq_iff_eq,beq_iff_eq]
   constructor
   ·intro h
    rw[born_inj hs.2.1 hx he h]
   ·intro h
    have hke:x.key=e.key:=by rw[key_of (hk x hx),key_of (hk e he)];exact congrArg _ h
    obtain⟨i,hi,rfl⟩:=List.mem_iff_getElem.1 hx
    obtain⟨j,hj,rfl⟩:=List.mem_iff_getElem.1 he
    have hnd:=hs.2.2
    have:=(List.getElem_inj (i:=i) (j:=j) (h₀:=by simpa using hi) (h₁:=by simpa using hj) hnd).1 (by simpa using hke)
    subst this
    rfl
  rw[contains_push,Bool.not_or,hb,Bool.and_comm]
 rw[h1];unfold delP;rw[List.filter_map]
 rfl
section
variable {P:Program} {w0 w:World} {X:List Nat} {L:List At} {o:Oper} {a:Act} {G:Value->World->Prop}
theorem mrg(k:Nat)(hs:St w0 X L w){ty:TypeId}{m:Operand}(ho:o.op=.range ty m){g:Nat}(hm:a.eval m=.map (some g)){kd:IntKind}{l:Ps}(hk:L[k]? = some (mp g kd l)){kt et:TypeId}(ht:P.underlying ty=some (.map kt et))
  (h:∀ w' gi,St w0 X (L.set k (mit gi g kd l l none)) w'->G (.pointer (some ⟨gi,0,none⟩)) w'):Hv.Gives P o a w G:=by
 obtain⟨es,c,hb,hst,hks,rfl⟩:MP w g kd l:=hs.hold _ (List.mem_of_getElem? hk)
 have hr:=run_range_map (P:=P) w ty kt et g es c ht hb
 have hG:G (.pointer (some ⟨w.heap.size,0,none⟩)) (w.alloc (.mapIter (some g) c #[] c)):=by
  refine h _ _ (St.turnAt k hk hs (Fr.ext (Hv.Ext.alloc _ _)) ?_ trivial ?_ ?_)
  ·refine⟨es,c,c,#[],c,?_,(MapKept.heap_alloc w _).1,hst,hks,rfl,by rw[left_all],Nat.le_refl _,Nat.le_refl _,hst.1,fun p hp=>by cases hp⟩
   rw[(MapKept.heap_alloc w _).2 g (Array.getElem?_eq_some_iff.1 hb).1];exact hb
  ·have:=(Array.getElem?_eq_some_iff.1 hb).1
   simp only[At.owned,mit,List.nodup_cons,List.mem_singleton,List.not_mem_nil,not_false_eq_true,List.nodup_nil,and_self,and_true];omega
  ·simp[At.owned,mit,mp]
 unfold Hv.Gives execOp;simp only[ho,hm,Sem.run_bind,hr,Result.andThen_ok,Sem.run_pure];exact hG
theorem mnx(k:Nat)(hs:St w0 X L w){m:Operand}(ho:o.op=.next m false){gi g:Nat}(hm:a.eval m=.pointer (some ⟨gi,0,none⟩)){kd:IntKind}{l r:Ps}{cur:Option (Int × Value)}(hk:L[k]? = some (mit gi g kd l r cur))
  (h0:r=[]->G (.tuple #[.bool false]) w) (h1:∀ p∈r,p∈l->∀ w',St w0 X (L.set k (mit gi g kd l (delP r p.1) (some p))) w'->G (.tuple #[.bool true,.int kd p.1,p.2]) w'):Hv.Gives P o a w G:=by
 obtain⟨es,c,since,seen,c0,hb,hi,hst,hks,rfl,hr,hsc,hsc2,hold,hcur⟩:MI w gi g kd l r cur:=hs.hold _ (List.mem_of_getElem? hk)
 rcases run_next_at (P:=P) w o.type gi g since c0 seen es c hi hb hold hsc with ⟨hz,hrun⟩|⟨e,he,w1,hw1,hrun⟩
 ·have hr0:r=[]:=by rw[hr];simp[Array.eq_empty_of_size_eq_zero hz]
  unfold Hv.Gives execOp;simp only[ho,hm,Sem.run_bind,hrun,Result.andThen_ok,Sem.run_pure];exact h0 hr0
 ·have hee:=mem_left he
  have hk1:w1.heap=w.heap:=by rcases hw1 with rfl|rfl <;> rfl
  have hne:g≠gi:=by
   intro e;subst e;rw[hb] at hi
   cases hi
  have hG:G (.tuple #[.bool true,e.key,e.val]) (setBlock w1 gi (.mapIter (some g) since (seen.push e.born) c)):=by
   rw[key_of (hks e hee.1)]
   have hset:(setBlock w1 gi (.mapIter (some g) since (seen.push e.born) c)).heap[gi]? = some (.mapIter (some g) since (seen.push e.born) c)/\∀ b,b≠gi->(setBlock w1 gi (.mapIter (some g) since (seen.push e.born) c)).heap[b]? = w.heap[b]?:=by
    unfold setBlock
    have:=MapKept.heap_set (w:=w1) (r:=gi) (o:=.mapIter (some g) since seen c0) (o':=.mapIter (some g) since (seen.push e.born) c) (by rw[hk1];exact hi)
    exact⟨this.1,fun b hb=>by rw[this.2 b hb,hk1]⟩
   refine h1 (prE e) (by rw[hr];exact List.mem_map.2 ⟨e,he,rfl⟩) (List.mem_map.2 ⟨e,hee.1,rfl⟩) _ (St.turnAt k hk hs ?_ ?_ trivial ?_ ?_)
   ·have he1:w1.os=w.os/\w1.tape=w.tape/\w1.output=w.output:=by rcases hw1 with rfl|rfl <;> exact⟨rfl,rfl,rfl⟩
    refine⟨he1.1,he1.2.1,he1.2.2,?_,fun b _ hX=>hset.2 b fun e=>hX (by simp[At.owned,mit,e])⟩;unfold setBlock;simp[hk1]
   ·refine⟨es,c,since,seen.push e.born,c,by rw[hset.2 g hne];exact hb,hset.1,hst,hks,rfl,by rw[left_push hst hks hee.1,hr],hsc2,hsc2,hold,fun p hp=>?_⟩
    ·cases hp
     exact⟨seen,e,rfl,hee.1,rfl,rfl⟩
   ·simpa [At.owned,mit] using fun e:gi=g=>hne e.symm
   ·simp[At.owned,mit]
  unfold Hv.Gives execOp;simp only[ho,hm,Sem.run_bind,hrun,Result.andThen_ok,Sem.run_pure];exact hG
theorem men(hs:St w0 X L w){m:Operand}(ho:o.op=.entry m){gi g:Nat}(hm:a.eval m=.pointer (some ⟨gi,0,none⟩)){kd:IntKind}{l r:Ps}{p:Int × Value}(hk:mit gi g kd l r (some p)∈L)
  (h:G (.tuple #[.int kd p.1,p.2]) w):Hv.Gives P o a w G:=by
 obtain⟨es,c,since,seen,c0,hb,hi,hst,hks,rfl,hr,hsc,hsc2,hold,hcur⟩:MI w gi g kd l r (some p):=hs.hold _ hk
 obtain⟨seen',e,rfl,he,rfl,rfl⟩:=hcur p rfl
 have hrun:=run_entry_at (P:=P) w gi g since seen' es c0 e hi hb he hst.2.1
 rw[key_of (hks e he)] at hrun;unfold Hv.Gives execOp;simp only[ho,hm,Sem.run_bind,hrun,Result.andThen_ok,Sem.run_pure];exact h
end
end Se
end Go.Proofs.YtjnllcnknjlmmaaGreat
namespace Go.Proofs.YtjnllcnknjlmmaaGreat
open Go Go.RowKit
namespace Se
open Li (Fr)
abbrev kkT:TypeId:=171
def kk(k:Int × Int):Value:=.agg #[.int .i64 k.1,.int .u8 k.2]
def getK(l:List ((Int × Int) × Value))(k:Int × Int):Option Value:=(l.find? (·.1==k)).map (·.2)
def KM(w:World)(g:Nat)(l:List ((Int × Int) × Value)):Prop:=∃ es c,w.heap[g]? = some (.map es c)/\es.toList.map (fun e=>(e.key,e.val))=l.map (fun p=>(kk p.1,p.2))
def kmp(g:Nat)(l:List ((Int × Int) × Value)):At:=.abs [g] (fun w=>KM w g l)
 (fun w h b hb=>by
  obtain⟨es,c,h,_⟩:=h
  simp only[List.mem_singleton] at hb;subst hb;exact(Array.getElem?_eq_some_iff.1 h).1)
 (fun w w' h hb=>by
  obtain⟨es,c,h1,h2⟩:=h
  exact⟨es,c,by rw[hb g (by simp)];exact h1,h2⟩)
theorem key_eqIn(a b c d:Int)(w:World):(Op.equalIn 10000 kkT (.agg #[.int .i64 a,.int .u8 b]) (.agg #[.int .i64 c,.int .u8 d])).run Tryz.prog w=.ok (a==c&&b==d) w:=by
 rw[run_equalIn_struct w 9999 kkT _ _ (by kernel_rfl) (by kernel_rfl)];simp only[Program.fieldsOf,kkT,Tryz.underlying171]
 cases h1:a==c <;> cases h2:b==d <;> simp[go_sem,Tryz.underlying41,Tryz.underlying62,h1,h2]
theorem key_eqTop(k q:Int × Int)(w:World):(Op.equal kkT (kk k) (kk q)).run Tryz.prog w=.ok (q==k) w:=by
 obtain⟨a,b⟩:=k
 obtain⟨c,d⟩:=q
 have h:=key_eqIn a b c d w
 simp only[Op.equal,Op.maxDepth,kk];rw[h]
 congr 1
 show(a==c&&b==d)=(c==a&&d==b)
 rw[Bool.eq_iff_iff];simp only[Bool.and_eq_true,beq_iff_eq];exact⟨fun⟨h,k⟩=>⟨h.symm,k.symm⟩,fun⟨h,k⟩=>⟨h.symm,k.symm⟩⟩
theorem run_checkK(e:Bool)(k:Int × Int)(w:World):(Instr.checkKey e 10000 kkT (kk k)).run Tryz.prog w=.ok () w:=by
 show(Instr.checkKey e (9998+1+1) kkT (kk k)).run Tryz.prog w=.ok () w
 have h1:∀ (t:TypeId) (d:IntKind) (z:Int) (w:World),Tryz.prog.underlying t=some (.int d)->(Instr.checkKey e (9998+1) t (.int d z)).run Tryz.prog w=.ok () w:=fun t d z w ht=>MapKept.run_checkKey ht (by simp[MapKept.IsKey]) e 9998
 generalize 9998+1=n at h1 ⊢;unfold kk;rw[Instr.checkKey];simp only[Sem.run_bind,run_underlying (show Tryz.prog.underlying kkT=_ from Tryz.underlying171),Result.andThen_ok];simp[go_sem,h1,Tryz.underlying41,Tryz.underlying62]
def fnd(k:Int × Int):List ((Int × Int) × Value)->Nat->Option (Nat × Value)
 | [],_=>none
 | p::l,i=>if p.1==k then some (i,p.2) else fnd k l (i+1)
theorem fnd_get(k:Int × Int):∀ (l:List ((Int × Int) × Value)) (i:Nat),(fnd k l i).map (·.2)=getK l k
 | [],_=>rfl
 | p::l,i=>by
  unfold fnd getK;rw[List.find?_cons]
  cases h:p.1==k with
  | true=>rfl
  | false=>exact fnd_get k l (i+1)
theorem run_askK(k:Int × Int)(w:World):∀ (l:List ((Int × Int) × Value)) (es:List MapEntry) (i:Nat),es.map (fun e=>(e.key,e.val))=l.map (fun p=>(kk p.1,p.2))->(Instr.findAsking kkT (kk k) es i).run Tryz.prog w=.ok (fnd k l i) w
 | [],es,i,h=>by
  obtain rfl:es=[]:=by simpa using h
  simp[Instr.findAsking,fnd]
 | p::l,[],i,h=>by simp at h
 | p::l,e::es,i,h=>by
  simp only[List.map_cons,List.cons.injEq,Prod.mk.injEq] at h
  obtain⟨⟨h1,h2⟩,h3⟩:=h
  have ih:=run_askK k w l es (i+1) h3
  have hq:=key_eqTop k p.1 w
  unfold fnd;simp only[Instr.findAsking,Sem.run_bind,h1,h2,hq,Result.andThen_ok]
  cases p.1==k with
  | true=>simp
  | false=>simpa using ih
theorem run_findK(k:Int × Int)(w:World)(l:List ((Int × Int) × Value))(es:List MapEntry)(h:es.map (fun e=>(e.key,e.val))=l.map (fun p=>(kk p.1,p.2))):(Instr.findKey kkT (kk k) es).run Tryz.prog w=.ok (fnd k l 0) w:=by
 have ha:=run_askK k w l es 0 h
 simp only[Instr.findKey,Sem.run_bind,run_underlying (show Tryz.prog.underlying kkT=_ from Tryz.underlying171),Result.andThen_ok]
 cases es with
 | nil =>
  cases l with
  | nil=>simp[Instr.findNow,fnd]
  | cons p l=>simp at h
 | cons e es =>
  simp only[Instr.findNow,Instr.sameNow,kk];exact ha
section
variable {w0 w:World} {X:List Nat} {L:List At} {o:Oper} {a:Act} {G:Value->World->Prop}
theorem kmk(hs:St w0 X L w){ty:TypeId}(ho:o.op=.makeMap ty none)
  (h:∀ (w':World) (g:Nat),g=w.heap.size->St w0 X (kmp g []::L) w'->G (.map (some g)) w'):Hv.Gives Tryz.prog o a w G:=by
 have hr:(Instr.makeMap ty none).run Tryz.prog w=.ok (.map (some w.heap.size)) (w.alloc (.map #[] 0)):=by
  simp[Instr.makeMap,Result.andThen]
 unfold Hv.Gives execOp;simp only[ho,Option.map_none,Sem.run_bind,hr,Result.andThen_ok,Sem.run_pure];refine h _ _ rfl ?_;refine St.turn (P:=[]) (P':=[kmp w.heap.size []]) hs (Fr.ext (Hv.Ext.alloc _ _)) ?_ (by simp[At.noRd,kmp]) (by simp[ownedL,At.owned,kmp]) (by simp[ownedL,At.owned,kmp]);simp only[List.mem_singleton,forall_eq,At.holds,kmp];exact⟨#[],0,(MapKept.heap_alloc w _).1,rfl⟩
theorem kin(n:Nat)(hs:St w0 X L w){ty:TypeId}{m x y:Operand}(ho:o.op=.insert ty m x y){g:Nat}(hm:a.eval m=.map (some g)){k:Int × Int}(hx:a.eval x=.agg #[.int .i64 k.1,.int .u8 k.2]){l:List ((Int × Int) × Value)}(hk:L[n]? = some (kmp g l)){v:Value}(hy:a.eval y=v){et:TypeId}(ht:Tryz.prog.underlying ty=some (.map kkT et))(hf:getK l k=none)
  (h:∀ w',St w0 X (L.set n (kmp g (l++[(k,v)]))) w'->G undef w'):Hv.Gives Tryz.prog o a w G:=by
 obtain⟨es,c,hb,hl⟩:KM w g l:=hs.hold _ (List.mem_of_getElem? hk)
 have hfn:fnd k l 0=none:=by
  have:=fnd_get k l 0
  rw[hf,Option.map_eq_none_iff] at this;exact this
 have h2:=run_findK k w l es.toList hl
 rw[hfn] at h2
 have hr:(Instr.mapUpdate ty (.map (some g)) (kk k) v).run Tryz.prog w=.ok () { w with heap:=w.heap.setIfInBounds g (.map (es.push { key:=kk k,val:=v,born:=c }) (c+1)) }:=by
  simp[Instr.mapUpdate,run_underlying ht,MapKept.run_getObj_map hb,run_checkK,h2,MapKept.run_setObj_map _ hb,Result.andThen]
 have hG:G undef { w with heap:=w.heap.setIfInBounds g (.map (es.push { key:=kk k,val:=v,born:=c }) (c+1)) }:=by
  refine h _ (St.turnAt n hk hs ⟨rfl,rfl,rfl,by simp,fun b _ hX=>?_⟩ ?_ trivial (by simp[At.owned,kmp]) (by simp[At.owned,kmp]))
  ·exact(MapKept.heap_set hb).2 b (by simpa [At.owned,kmp] using hX)
  ·exact⟨_,_,(MapKept.heap_set hb).1,by simp[hl]⟩
 have hx2:a.eval x=kk k:=hx
 unfold Hv.Gives execOp;simp only[ho,hm,hx2,hy,Sem.run_bind,hr,Result.andThen_ok,Sem.run_pure];exact hG
theorem klk(hs:St w0 X L w){ty:TypeId}{m x:Operand}(ho:o.op=.lookup ty m x true){g:Nat}(hm:a.eval m=.map (some g)){k:Int × Int}(hx:a.eval x=.agg #[.int .i64 k.1,.int .u8 k.2]){l:List ((Int × Int) × Value)}(hk:kmp g l∈L){et:TypeId}(ht:Tryz.prog.underlying ty=some (.map kkT et)){zv:Value}(hz:(Tryz.prog.info? et).bind (·.zero)=some zv)
  (h:G (.tuple #[(getK l k).getD zv,.bool (getK l k).isSome]) w):Hv.Gives Tryz.prog o a w G:=by
 obtain⟨es,c,hb,hl⟩:KM w g l:=hs.hold _ hk
 have h2:=run_findK k w l es.toList hl
 have h3:=fnd_get k l 0
 have hx2:a.eval x=kk k:=hx
 cases hi:Tryz.prog.info? et with
 | none=>simp[hi] at hz
 | some i =>
  simp only[hi,Option.bind_some] at hz
  have hr:(Instr.lookup ty (.map (some g)) (kk k) true).run Tryz.prog w=.ok (.tuple #[(getK l k).getD zv,.bool (getK l k).isSome]) w:=by
   rw[<-h3]
   cases hf:fnd k l 0 with
   | none =>
    rw[hf] at h2;simp[Instr.lookup,run_underlying ht,MapKept.run_getObj_map hb,run_checkK,h2,Result.andThen,zeroValue,typeInfo,hi,hz]
   | some q =>
    rw[hf] at h2;simp[Instr.lookup,run_underlying ht,MapKept.run_getObj_map hb,run_checkK,h2,Result.andThen]
  unfold Hv.Gives execOp;simp only[ho,hm,hx2,Sem.run_bind,hr,Result.andThen_ok,Sem.run_pure];exact h
end
end Se
end Go.Proofs.YtjnllcnknjlmmaaGreat
namespace Go.Proofs.YtjnllcnknjlmmaaGreat
open Go Go.RowKit
namespace Se
def SeqG{ι α:Type}(P:Program)(gf:Nat)(lb:Array Value)(encs:α->Array Value)(R:ι->α->ι->Prop)(Dn:ι->Prop)(M Me:ι->List At)(i0:ι):Prop :=
 ∀ (l:Nat) (w0:World) (X:List Nat) (J Jx:ι->List At->Prop),
  (∀ k x k',R k x k'->∀ T W,J k T->St w0 X (M k'++T) W->YieldAt (WF none) 0 P l (encs x) W fun e W' =>
   (e=.returned (.bool true)/\∃ T',J k' T'/\St w0 X (M k'++T') W')\/(e=.returned (.bool false)/\∃ T',Jx k' T'/\St w0 X (M k'++T') W')) ->
  ∀ T W,J i0 T->St w0 X (M i0++T) W ->
   Calls P gf (#[.func (.yield l) #[] #[]]++lb) W fun e W'=>(∃ v,e=.returned v)/\((∃ k T',Dn k/\J k T'/\St w0 X (Me k++T') W')\/∃ k T',Jx k T'/\St w0 X (M k++T') W')
theorem rangeG{ι α:Type}{P:Program}{g:Operand}{ps:Array Tmp}{assign body:Code}{Q:Exit->Act->World->Prop}{a:Act}{w w0:World}{X:List Nat}{L Lr:List At}
  {gf:Nat} {lb:Array Value} {encs:α->Array Value} {R:ι->α->ι->Prop} {Dn:ι->Prop} {M Me:ι->List At} {i0:ι} (hs:St w0 X (L++(M i0++Lr)) w) (hg:a.eval g=.func (.func gf) #[] lb) (eg:∀ args w,(callFunc gf args).run P w=.ok (.enter gf args) w)
  (hseq:SeqG P gf lb encs R Dn M Me i0) (hps:∀ x,(encs x).size=ps.size) (J:ι->List At->Prop) (Jx:Code->ι->List At->Prop) (h0:J i0 L)
  (hround:∀ l k x k' L W T,R k x k'->J k L->St w0 X (L++T) W ->
   assign.wpIn (WF (some l)) 0 P (Exit.then (fun a₁ W₁=>∃ L₁,St w0 X (L₁++T) W₁/\∀ W' T',St w0 X (L₁++T') W'->body.wpIn (WF (some l)) 0 P (roundSt w0 X T' (J k') (fun c=>Jx c k')) a₁ W') (fun _ _ _=>False)) { tmps:=(ps.zip (encs x)).foldl (fun t (p,v)=>t.setIfInBounds p v) a.tmps,defers:=[] } W)
  (hdone:∀ D k L W,Dn k->J k L->St w0 X (L++(Me k++(dpc D::Lr))) W->Q .normal { a with defers:={ target:=.collected D,args:=#[] }::a.defers } W)
  (hstop:∀ D c k L W,Jx c k L->St w0 X (L++(M k++(dpc D::Lr))) W->c.wp P Q { a with defers:={ target:=.collected D,args:=#[] }::a.defers } W) :
  (Code.rangeFunc g ps assign body).wp P Q a w:=by
 refine(wp_WF (n:=0)).1 (wpIn_rangeFunc ?_);intro fn hfn
 obtain⟨rec,hrec⟩:∃ rec:LoopState->Option Code->Loop,rec=fun st pe=>{ state:=st,pending:=pe,fn,tmps:=a.tmps,params:=ps,assign,body,defers:=w.heap.size }:=⟨_,rfl⟩
 obtain⟨l,hl⟩:∃ l,l=w.heap.size+1:=⟨_,rfl⟩
 obtain⟨D,hD⟩:∃ D,D=w.heap.size:=⟨_,rfl⟩
 have hsD:St w0 X (dpc D::(L++(M i0++Lr))) (w.alloc (.deferred (some []))):=by
  refine hs.newObj _ (by rw[hD]) ?_;rw[hD];exact World.alloc_heap_new w _
 have hsl:St w0 X (lpc l (rec .ready none)::dpc D::(L++(M i0++Lr))) ((w.alloc (.deferred (some []))).alloc (.loop (rec .ready none))):=by
  refine hsD.newObj _ (by rw[World.size_alloc,hl]) ?_
  have:=World.alloc_heap_new (w.alloc (.deferred (some []))) (.loop (rec .ready none))
  rwa [World.size_alloc,<-hl] at this
 refine⟨l,[{ target:=.collected D,args:=#[] }],(w.alloc (.deferred (some []))).alloc (.loop (rec .ready none)),{ target:=.fn (.func gf) lb,args:=#[.func (.yield l) #[] #[]] },(w.alloc (.deferred (some []))).alloc (.loop (rec .ready none)),gf,
  #[.func (.yield l) #[] #[]]++lb,(w.alloc (.deferred (some []))).alloc (.loop (rec .ready none)),?_,?_,?_,?_,fun h=>by simp[WF,Fence.wide] at h,?_⟩
 ·rw[hl,hD,hrec];exact run_enterLoop_outer _ _ _ _ _
 ·simp only[resolve,hg]
  simp[go_sem]
 ·intro f' _;trivial
 ·simp[invoke,go_sem,eg]
 ·refine callsIn_WF ?_
  have perm1:∀ (r:Loop) (L' m:List At),(m++(L'++(lpc l r::dpc D::Lr))).Perm (L'++(lpc l r::(dpc D::Lr++m))):=fun r L' m=>by
   refine(List.perm_append_comm).trans ?_;rw[List.append_assoc];rfl
  have perm2:∀ (r:Loop) (L' T:List At),(L'++(lpc l r::T)).Perm (lpc l r::(L'++T)):=fun _ _ _=>List.perm_middle
  refine(hseq l w0 X (fun k T=>∃ L',J k L'/\T=L'++(lpc l (rec .ready none)::dpc D::Lr)) (fun k T=>∃ c L',Jx c k L'/\T=L'++(lpc l (rec .done (some c))::dpc D::Lr)) ?_ (L++(lpc l (rec .ready none)::dpc D::Lr)) _ ⟨L,h0,rfl⟩ (hsl.perm ?_)).mono ?_
  ·rintro k x k' hx T W ⟨L',hJ,rfl⟩ hW
   have hW1:=hW.perm (perm1 _ _ _)
   have hlo:=(hW1.perm (perm2 _ _ _)).loopAt
   have hy:=run_yield (P:=P) (args:=encs x) hlo (by rw[hrec];exact hps x)
   rw[hrec] at hy;refine⟨fn,_,assign,body,hy,roundIn_of_wpIn trivial ?_⟩;rw[WF_inRound];refine wpIn_mono (hround l k x k' L' W _ hx hJ hW1) ?_;intro e a₁ W₁ hq
   cases e with
   | normal =>
    obtain⟨L₁,hS1,hbd⟩:=hq
    have hS2:=hS1.perm (perm2 _ _ _)
    have hlo1:=hS2.loopAt
    refine⟨_,run_beginRound hlo1 (by rw[hrec]),?_⟩
    have hS3:=(hS2.putLoop { rec .ready none with state:=.busy }).perm (perm2 _ _ _).symm
    refine wpIn_mono (hbd _ _ hS3) ?_
    have fin:∀ (jump:Option Code) (L2:List At) (W3:World),St w0 X (L2++(lpc l { rec .ready none with state:=.busy }::(dpc D::Lr++M k'))) W3 ->
      (Instr.endRound l jump).run P W3=.ok (.bool jump.isNone) (W3.putObj l (.loop (rec (if jump.isNone then .ready else .done) jump))) /\
      St w0 X (M k'++(L2++(lpc l (rec (if jump.isNone then .ready else .done) jump)::dpc D::Lr))) (W3.putObj l (.loop (rec (if jump.isNone then .ready else .done) jump))):=fun jump L2 W3 h3=>by
     have h4:=h3.perm (perm2 _ _ _)
     have h5:=run_endRound (P:=P) jump h4.loopAt
     rw[hrec] at h5 ⊢;refine⟨h5,?_⟩
     have h6:=(h4.putLoop (rec (if jump.isNone then .ready else .done) jump)).perm (perm2 _ _ _).symm
     have h7:=h6.perm (perm1 _ _ _).symm
     rw[hrec] at h7;exact h7
    intro e a3 W3 hp
    cases e with
    | normal =>
     obtain⟨L2,hJ2,h3⟩:=hp
     obtain⟨h4,h5⟩:=fin none L2 W3 h3
     exact⟨_,_,h4,.inl ⟨rfl,_,⟨L2,hJ2,rfl⟩,h5⟩⟩
    | ret =>
     obtain⟨L2,hJ2,h3⟩:=hp
     obtain⟨h4,h5⟩:=fin (some .ret) L2 W3 h3
     exact⟨_,_,h4,.inr ⟨rfl,_,⟨.ret,L2,hJ2,rfl⟩,h5⟩⟩
    | exit id =>
     obtain⟨L2,hJ2,h3⟩:=hp
     obtain⟨h4,h5⟩:=fin (some (.exit id)) L2 W3 h3
     exact⟨_,_,h4,.inr ⟨rfl,_,⟨.exit id,L2,hJ2,rfl⟩,h5⟩⟩
    | goto t =>
     obtain⟨L2,hJ2,h3⟩:=hp
     obtain⟨h4,h5⟩:=fin (some (.goto t)) L2 W3 h3
     exact⟨_,_,h4,.inr ⟨rfl,_,⟨.goto t,L2,hJ2,rfl⟩,h5⟩⟩
    | panic ch=>exact hp.elim
    | outgrown=>exact hp.elim
   | ret=>exact hq.elim
   | exit id=>exact hq.elim
   | goto t=>exact hq.elim
   | panic ch=>exact hq.elim
   | outgrown=>exact hq.elim
  ·refine(List.perm_append_comm (l₁:=[lpc l (rec .ready none),dpc D]) (l₂:=L++(M i0++Lr))).trans ?_
   rw[List.append_assoc,List.append_assoc]
   have e:(L++(M i0++(Lr++[lpc l (rec .ready none),dpc D]))).Perm (M i0++(L++(Lr++[lpc l (rec .ready none),dpc D]))):=by
    rw[<-List.append_assoc,<-List.append_assoc (M i0)];exact List.Perm.append_right _ List.perm_append_comm
   exact e.trans (List.Perm.append_left _ (List.Perm.append_left _ (List.perm_append_comm (l₁:=Lr) (l₂:=[lpc l (rec .ready none),dpc D]))))
  ·rintro e W2 ⟨⟨v,rfl⟩,(⟨k,T,hk,⟨L',hJ,rfl⟩,hW⟩|⟨k,T,⟨c,L',hJ,rfl⟩,hW⟩)⟩
   ·have h1:=(hW.perm (perm1 _ _ _)).perm (perm2 _ _ _)
    refine⟨none,_,by have:=run_endLoop (P:=P) h1.loopAt (by rw[hrec];simp);rw[hrec] at this;exact this,?_⟩
    have h2:=(h1.putLoop { rec .ready none with state:=.exhausted }).drop
    rw[hrec] at h2;refine hdone D k L' _ hk hJ (h2.perm ?_);exact List.Perm.append_left _ (by
     rw[List.cons_append];exact(List.perm_append_comm (l₁:=dpc D::Lr) (l₂:=Me k)))
   ·have h1:=(hW.perm (perm1 _ _ _)).perm (perm2 _ _ _)
    refine⟨some c,_,by have:=run_endLoop (P:=P) h1.loopAt (by rw[hrec];simp);rw[hrec] at this;exact this,?_⟩
    have h2:=(h1.putLoop { rec .done (some c) with state:=.exhausted }).drop
    rw[hrec] at h2;refine wp_WF.2 (hstop D c k L' _ hJ (h2.perm ?_));exact List.Perm.append_left _ (by
     rw[List.cons_append];exact(List.perm_append_comm (l₁:=dpc D::Lr) (l₂:=M k)))
end Se
end Go.Proofs.YtjnllcnknjlmmaaGreat
namespace Go.Proofs.YtjnllcnknjlmmaaGreat
namespace Sn
open Pd (Fm PDU encE)
open Sr (Rc nextE addE refE)
abbrev Bs:=List (BitVec 8)
structure Cf where
 hd:Bool
 dd:Bool
 al:Nat
 ic:Nat
 md:Nat
 tr:Nat
 os:Nat
structure Cf.ok (c:Cf):Prop where
 al:c.al<=31
 ic:c.ic<=8192
 m1:4096<=c.md
 md:c.md<=1048576
 m4:c.md%4=0
 t1:4096<=c.tr
 tr:c.tr<=1048576
 t4:c.tr%4=0
 o1:1<=c.os
 os:c.os<=256
structure Tx where
 en:Bs
 tg:BitVec 16
 ln:Nat
 da:Bs
 nd:Nat
structure Rq where
 id:BitVec 16
 en:Bs
 da:Bs
 rp:Nat
structure Ss where
 c:Cf
 st:Nat:=1
 re:Nat:=0
 r:Rc:={ f:=⟨false,false,0⟩,mo:=2097152 }
 f:Fm:=⟨false,false,0⟩
 out:Bs:=[]
 tx:List (BitVec 16 × Tx):=[]
 rp:List (BitVec 16 × Nat):=[]
 rd:List Rq:=[]
def getA{α:Type}(l:List (BitVec 16 × α))(k:BitVec 16):Option α:=(l.find? (·.1==k)).map (·.2)
def putA{α:Type}(l:List (BitVec 16 × α))(k:BitVec 16)(v:α):List (BitVec 16 × α):=if l.any (·.1==k) then l.map (fun p=>if p.1==k then (k,v) else p) else l++[(k,v)]
def delA{α:Type}(l:List (BitVec 16 × α))(k:BitVec 16):List (BitVec 16 × α):=l.filter (fun p => !(p.1==k))
def sendE(s:Ss)(p:PDU):Ss:={ s with out:=s.out++(encE p s.f).1 }
def overE(s:Ss)(re:Nat):Ss:={ s with st:=3,re:=re,tx:=[],rp:=[] }
def endE(s:Ss)(re:Nat):Ss:=overE (sendE s { h:={ k:=3#8,st:=BitVec.ofNat 16 re } }) re
def digE(c:Cf)(d:BitVec 8):BitVec 8:=(if c.hd then d&&&1#8 else 0#8)|||(if c.dd then d&&&2#8 else 0#8)
def fmE(d:BitVec 8)(al:Nat):Fm:=⟨decide (d&&&1#8≠0#8),decide (d&&&2#8≠0#8),(al:Int)⟩
def openE(s:Ss)(p:PDU):Ss :=
 { sendE s { h:={ k:=1#8,al:=BitVec.ofNat 8 s.c.al,dg:=digE s.c p.h.dg,mx:=BitVec.ofNat 32 s.c.md } } with
  f:=fmE (digE s.c p.h.dg) p.h.al.toNat,r:=(refE s.r (fmE (digE s.c p.h.dg) s.c.al)).1,st:=2 }
def num:Bs->Nat
 | []=>0
 | b::bs=>b.toNat+256*num bs
def at_(b:Bs)(i:Nat):BitVec 8:=b.getD i 0#8
def dirE(b:Bs):Nat:=if at_ b 0=127#8 then (at_ b 4).toNat%4 else (at_ b 0).toNat%4
def lenE(b:Bs):Nat:=num ((b.drop 32).take 4)
def idE(b:Bs):BitVec 16:=BitVec.ofNat 16 (num ((b.drop 2).take 2))
def zer(b:Bs):Bool:=b.all (· == 0#8)
def descE(c:Cf)(b:Bs)(d:Nat):Nat × Bool :=
 if !zer ((b.drop 24).take 8) || !zer ((b.drop 36).take 3) || decide (1048576<lenE b) then (0,false) else
 if dirE b=0 then (0,decide (lenE b=0)&&decide (d=0)&&(decide (at_ b 39=0#8) || decide (at_ b 39=90#8))) else
 if dirE b=1 then (if at_ b 39=1#8 then (lenE b,decide (lenE b=d)&&decide (lenE b<=c.ic)) else (lenE b,decide (at_ b 39=90#8)&&decide (d=0))) else
 if dirE b=2 then (lenE b,decide (at_ b 39=90#8)&&decide (d=0)) else (0,false)
def tagE(tx:List (BitVec 16 × Tx)):Nat->BitVec 16->BitVec 16
 | 0,t=>t
 | n+1,t=>if tx.any (fun p=>p.2.tg==t) then tagE tx n (t+1#16) else t
def askE(s:Ss)(id:BitVec 16)(t:Tx):Ss :=
 sendE { s with tx:=putA s.tx id { t with nd:=min (t.da.length+s.c.tr) t.ln } } { h:={ k:=9#8,id:=id,tg:=t.tg,of:=BitVec.ofNat 32 t.da.length,ln:=BitVec.ofNat 32 (min (t.da.length+s.c.tr) t.ln-t.da.length) } }
def requestE(s:Ss)(id:BitVec 16)(b da:Bs)(rp:Nat):Ss:={ s with rp:=putA s.rp id rp,rd:=s.rd++[⟨id,b,da,rp⟩] }
def commandE(s:Ss)(p:PDU):Ss :=
 if (getA s.tx (idE p.en)).isSome || (getA s.rp (idE p.en)).isSome then endE s 2 else
 if s.c.os<=s.tx.length+s.rp.length then endE s 5 else
 if (descE s.c p.en p.da.length).2=false then endE s 4 else
 if dirE p.en=1/\at_ p.en 39=90#8/\0<lenE p.en then askE s (idE p.en) ⟨p.en,tagE s.tx (s.tx.length+1) 0#16,lenE p.en,[],0⟩ else
 if dirE p.en=2 then requestE s (idE p.en) p.en [] (lenE p.en) else requestE s (idE p.en) p.en p.da 0
def dataE(s:Ss)(p:PDU):Ss :=
 match getA s.tx p.h.id with
 | none=>endE s 2
 | some t =>
  if t.tg≠p.h.tg then endE s 2 else
  if s.c.md<p.da.length\/p.h.of.toNat≠t.da.length\/t.nd<t.da.length+p.da.length\/p.h.la≠decide (t.da.length+p.da.length=t.nd) then endE s 4 else
  if t.da.length+p.da.length=t.ln then requestE { s with tx:=delA (putA s.tx p.h.id { t with da:=t.da++p.da }) p.h.id } p.h.id t.en (t.da++p.da) 0 else
  if t.da.length+p.da.length=t.nd then askE { s with tx:=putA s.tx p.h.id { t with da:=t.da++p.da } } p.h.id { t with da:=t.da++p.da } else
  { s with tx:=putA s.tx p.h.id { t with da:=t.da++p.da } }
def handleE(s:Ss)(p:PDU):Ss :=
 if s.st=1/\p.h.k=0#8 then openE s p else
 if s.st=2/\p.h.k=4#8 then commandE s p else
 if s.st=2/\p.h.k=6#8 then dataE s p else
 if s.st=2/\p.h.k=2#8 then overE s 6 else endE s 2
def whyE(e:Nat):Nat:=if e=364\/e=365 then 3 else 1
def feedN:Nat->Ss->Ss
 | 0,s=>s
 | n+1,s =>
  if s.st=3 then s else
  if (nextE s.r).2.2=9 then { s with r:=(nextE s.r).1 } else
  if (nextE s.r).2.2≠0 then feedN n (endE { s with r:=(nextE s.r).1 } (whyE (nextE s.r).2.2)) else
  feedN n (handleE { s with r:=(nextE s.r).1 } (nextE s.r).2.1)
def feedE(s:Ss)(x:Bs):Ss × List Rq × Nat :=
 if s.st=3 then (s,[],8) else
 if (addE s.r x).2≠0 then (s,[],(addE s.r x).2) else
 let t:=feedN ((addE s.r x).1.b.length+2) { s with r:=(addE s.r x).1,rd:=[] }
 ({ t with rd:=[] },t.rd,0)
def replyL(md:Nat)(id:BitVec 16)(da:Bs):Nat->Nat->List PDU
 | 0,_=>[]
 | n+1,a=>if da.length<=a then [] else { h:={ k:=7#8,id:=id,of:=BitVec.ofNat 32 a,la:=decide (min (a+md) da.length=da.length) },da:=(da.drop a).take md }::replyL md id da n (a+md)
def replyE(s:Ss)(id:BitVec 16)(en da:Bs):Ss × Nat :=
 if s.st≠2 then (s,8) else
 match getA s.rp id with
 | none=>(s,9)
 | some n=>if n<da.length then (s,5) else
  (sendE ((replyL s.c.md id da (da.length+1) 0).foldl sendE { s with rp:=delA s.rp id }) { h:={ k:=5#8 },en:=en },0)
def outE(s:Ss):List (BitVec 16):=(s.tx.map (·.1)++s.rp.map (·.1)).mergeSort (fun a b=>decide (a.toNat<=b.toNat))
end Sn
end Go.Proofs.YtjnllcnknjlmmaaGreat
namespace Go.Proofs.YtjnllcnknjlmmaaGreat
open Go Go.RowKit
namespace Sn
open Pd (PDU encE pc iv fl)
open Se (St At Reads Cell mp)
open Li (v8 v8_one Rd Blk)
open Bv (n16)
variable {w0 w:World} {X:List Nat} {L:List At}
attribute [local irreducible] Calls
def cfl(c:Cf):List Value:=[.bool c.hd,.bool c.dd,iv c.al,iv c.ic,iv c.md,iv c.tr,iv c.os]
structure Hs where
 gr:Nat
 OB:Option Addr:=none
 oc:Nat:=0
 gt:Nat
 gp:Nat
 RB:Option Addr:=none
 rc:Nat:=0
def scl(s:Ss)(h:Hs):List Value:=cfl s.c++[.bool true,iv s.st,iv s.re,.pointer (some ⟨h.gr,0,none⟩),.bool s.f.hd,.bool s.f.dd,.int .i64 s.f.al,.slice h.OB s.out.length h.oc,.map (some h.gt),.map (some h.gp),.slice h.RB s.rd.length h.rc]
abbrev qS(g:Nat)(s:Ss)(h:Hs):At:=.blk g 112 (scl s h)
abbrev qU(r:Option Nat)(s:Ss)(h:Hs):At:=.own 1 r h.OB s.out.length h.oc (s.out.map v8)
theorem scl_f(s:Ss)(h:Hs)(g:Nat)(T:TypeId)(L:List At):Reads (.blk g T (scl s h)::L) (some ⟨g,11,none⟩) (fl s.f):=by
 have h:=((Reads.blk (L:=.blk g T (scl s h)::L) 0 rfl).at 11).take 3
 exact h
theorem within_st(hs:St w0 X L w)(v a b:Int):Calls Tryz.prog 117 #[.int .i64 v,.int .i64 a,.int .i64 b] w fun e w'=>e=.returned (.bool (decide (a<=v)&&decide (v<=b)))/\St w0 X L w':=by
 by_cases h1:a<=v
 ·have d1:decide (a<=v)=true:=by simpa using h1
  obtain⟨r,hr⟩:∃ r,decide (v<=b)=r:=⟨_,rfl⟩
  rw[d1,hr];clear h1
  go_enter Tryz.func117,Tryz.ntmps117
  go_wp2_with fail
  go_ret;exact⟨rfl,hs⟩
 ·have d1:decide (a<=v)=false:=by simpa using h1
  rw[d1];clear h1
  go_enter Tryz.func117,Tryz.ntmps117
  go_wp2_with fail
  go_ret;exact⟨rfl,hs⟩
theorem none_st{g:Nat}{s:Ss}{h:Hs}(hs:St w0 X (qS g s h::L) w):Calls Tryz.prog 87 #[.pointer (some ⟨g,0,none⟩)] w fun e w'=>e=.returned (.bool false)/\St w0 X (qS g s h::L) w':=by
 obtain⟨SL,hSL⟩:∃ SL,SL=scl s h:=⟨_,rfl⟩
 have S7:=Lib.hid (show SL[7]? = some (.bool true) by rw[hSL];rfl)
 have hs2:St w0 X (.blk g 112 SL::L) w:=by rw[hSL];exact hs
 have K:Hid (∀ w',St w0 X (.blk g 112 SL::L) w'->St w0 X (qS g s h::L) w'):=Lib.hid (fun w' h=>by rw[hSL] at h;exact h)
 clear hs hSL
 have hs:=hs2
 clear hs2
 go_enter Tryz.func87,Tryz.ntmps87
 go_wp2_with (first|((with_reducible refine Se.iL 9 ?_);(refine Se.Ld hs rfl rfl (Cell.blk 0 rfl S7.out) ?_)))
 go_ret;exact⟨rfl,K.out _ hs⟩
theorem nil_st(hs:St w0 X L w):Calls Tryz.prog 87 #[.pointer none] w fun e w'=>e=.returned (.bool true)/\St w0 X L w':=by
 go_enter Tryz.func87,Tryz.ntmps87
 go_wp2_with fail
 go_ret;exact⟨rfl,hs⟩
theorem send_st{g:Nat}{s:Ss}{h:Hs}{ro:Option Nat}(hs:St w0 X (qS g s h::qU ro s h::L) w)(p:PDU){EA DA:Option Addr}{en ec dn dc:Nat}(hE:Reads (qS g s h::qU ro s h::L) EA (p.en.map v8))(hD:Reads (qS g s h::qU ro s h::L) DA (p.da.map v8))(he:en=p.en.length)(hd:dn=p.da.length)(le:en<=70368744177664)(ld:dn<=70368744177664)(hb:(sendE s p).out.length<=70368744177664) :
  Calls Tryz.prog 93 #[.pointer (some ⟨g,0,none⟩),.agg (pc p.h EA en ec DA dn dc).toArray] w fun e w'=>∃ ro' OB' oc',e=.returned (.tuple #[])/\St w0 X (qS g (sendE s p) { h with OB:=OB',oc:=oc' }::qU ro' (sendE s p) { h with OB:=OB',oc:=oc' }::L) w':=by
 obtain⟨bs,er,hbs⟩:∃ bs er,encE p s.f=(bs,er):=⟨_,_,rfl⟩
 obtain⟨SL,hSL⟩:∃ SL,SL=scl s h:=⟨_,rfl⟩
 obtain⟨F,hF⟩:∃ F,F=fl s.f:=⟨_,rfl⟩
 obtain⟨PL,hPL⟩:∃ PL,PL=pc p.h EA en ec DA dn dc:=⟨_,rfl⟩
 obtain⟨no,hno⟩:∃ no,no=s.out.length:=⟨_,rfl⟩
 obtain⟨m,hm⟩:∃ m,m=bs.length:=⟨_,rfl⟩
 have hso:(sendE s p).out=s.out++bs:=by unfold sendE;rw[hbs]
 have HB:=Lib.hid (show no+m<=70368744177664 by rw[hno,hm,<-List.length_append,<-hso];exact hb)
 have HM:=Lib.hid hm
 have PLL:=Lib.hid (show PL.length=14 by rw[hPL];rfl)
 have FL:=Lib.hid (show F.length=3 by rw[hF];rfl)
 have SLL:=Lib.hid (show SL.length=18 by rw[hSL];rfl)
 have S14:=Lib.hid (show SL[14]? = some (.slice h.OB no h.oc) by rw[hSL,hno];rfl)
 have RF:=Lib.hid (show ∀ (g':Nat) (L':List At),Reads (.blk g' 112 SL::L') (some ⟨g',11,none⟩) F by intro g' L';rw[hSL,hF];exact scl_f s h g' _ L')
 have CE:Hid (∀ (a:At) (w:World),St w0 X (a::.blk g 112 SL::.own 1 ro h.OB no h.oc (s.out.map v8)::L) w->Calls Tryz.prog 98 #[.agg PL.toArray,.agg F.toArray] w fun e' w'=>∃ r B c,e'=.returned (.tuple #[.slice B m c,iv er])/\St w0 X (.own 1 r B m c (bs.map v8)::a::.blk g 112 SL::.own 1 ro h.OB no h.oc (s.out.map v8)::L) w'):=Lib.hid (fun a w hs=>by
  rw[hPL,hF];rw[hSL,hno] at hs ⊢;exact Pd.encode_st hs p s.f (hE.cons a) (hD.cons a) he hd le ld hbs hm)
 have ES:Hid (∀ OB' oc',SL.set 14 (.slice OB' (no+m) oc')=scl (sendE s p) { h with OB:=OB',oc:=oc' }/\(sendE s p).out.length=no+m):=Lib.hid (fun OB' oc'=>by
  have hl:(sendE s p).out.length=no+m:=by rw[hso,List.length_append,hno,hm]
  refine⟨?_,hl⟩;rw[hSL];unfold scl;rw[hl]
  rfl)
 have HSO:=Lib.hid hso
 have hs2:St w0 X (.blk g 112 SL::.own 1 ro h.OB no h.oc (s.out.map v8)::L) w:=by rw[hSL,hno];exact hs
 rw[<-hPL];clear hs hSL hF hPL hno hm hso hbs hE hD he hd hb
 have hs:=hs2
 clear hs2
 go_enter Tryz.func93,Tryz.ntmps93
 go_upto_region 1 with (first|((first|with_reducible refine Se.ab hs ?_|with_reducible refine Se.abc hs ?_);clear hs;(first|(generalize w.heap.size=g3;intro w hs))))
 refine Ch.region' 11 (fun wx=>Blk wx g3 PL 65/\Rd wx (some ⟨g,11,none⟩) F) (fun|5=>true|_=>false) (by kernel_rfl) (by decide +kernel) (⟨hs.drew.hold (.blk g3 65 PL) (by simp),((RF.out _ _).app [_]) _ hs.drew.hold⟩) ?_;replace hs:=hs.drew;generalize w.drew=w at hs ⊢;change Ch.CW _ _ _ _ _ [0,1,2,3,4,5,6,7,8,9,10] _ _
 iterate 5 ((first|refine Ch.pA ?_|refine Ch.pE (hv:=fun wx hS=>Se.xR (hr:=(Li.Rd.of_blk hS.1)) (hi:=(by rw[PLL.out];kernel_rfl))) (h:=?_)|refine Ch.pE (hv:=fun wx hS=>Se.xR (hr:=hS.2) (hi:=(by rw[FL.out];kernel_rfl))) (h:=?_));(try simp only[pU]))
 refine Ch.cA (f:=98) (args:=#[.agg PL.toArray,.agg F.toArray]) (CE.out _ _ hs) ?_;clear hs;rintro e w⟨r,B,c,rfl,hs⟩;refine⟨_,rfl,⟨hs.hold (.blk g3 65 PL) (by simp),((RF.out _ _).app [_,_]) _ hs.hold⟩,?_⟩;(try simp only[pU])
 iterate 5 (refine Ch.pA ?_;(try simp only[pU]))
 refine Ch.done ?_
 try simp only[List.drop_succ_cons,List.drop_zero]
 clear CE RF
 go_wp2_with (first|((with_reducible refine Se.iL 19 ?_);(refine Se.Ld hs rfl rfl (Cell.blk 2 rfl S14.out) ?_))|((with_reducible refine Se.iL 21 ?_);(refine Se.toL rfl (Se.ap (o:=⟨some 21,_,_,_,_,_⟩) 3 hs rfl rfl rfl rfl (Reads.own 0 rfl) Tryz.underlying24 Pd.u8i3 rfl (by decide) (v8_one _) (by rw[List.length_map,HM.out,Nat.mul_one]) (by have:=HB.out;omega) (by have:=HB.out;omega) ?_);clear hs;rintro w r2 B2 c2 hs;try simp only[pS] at hs))|((with_reducible refine Se.iN ?_);(refine Se.Soq 2 hs rfl rfl rfl (by rw[SLL.out];omega) (rfl) ?_;clear hs;intro w hs;try simp only[pS] at hs)))
 obtain⟨e1,e2⟩:=ES.out B2 c2
 rw[e1] at hs;refine bodyPost_end (results_none rfl _ _ _) rfl ?_;refine⟨rfl,r2,B2,c2,?_⟩;rw[<-e2,<-List.map_append,<-HSO.out] at hs;exact hs.drop.drop
theorem over_st{g:Nat}{s:Ss}{h:Hs}(hs:St w0 X (qS g s h::L) w)(re:Nat) :
  Calls Tryz.prog 122 #[.pointer (some ⟨g,0,none⟩),iv re] w fun e w'=>∃ gt' gp',e=.returned (.tuple #[])/\St w0 X (mp gp' .u16 []::mp gt' .u16 []::qS g (overE s re) { h with gt:=gt',gp:=gp' }::L) w':=by
 obtain⟨SL,hSL⟩:∃ SL,SL=scl s h:=⟨_,rfl⟩
 obtain⟨S1,hS1⟩:∃ S1,S1=SL.set 8 (iv 3):=⟨_,rfl⟩
 obtain⟨S2,hS2⟩:∃ S2,S2=S1.set 9 (iv re):=⟨_,rfl⟩
 have SLL:=Lib.hid (show SL.length=18 by rw[hSL];rfl)
 have S1L:=Lib.hid (show S1.length=18 by rw[hS1,List.length_set,SLL.out])
 have S2L:=Lib.hid (show S2.length=18 by rw[hS2,List.length_set,S1L.out])
 have E1:=Lib.hid (show SL.set 8 (.int .i64 3)=S1 from hS1.symm)
 have E2:=Lib.hid (show S1.set 9 (.int .i64 (re:Int))=S2 from hS2.symm)
 have ES:=Lib.hid (show ∀ gt' gp',(S2.set 15 (.map (some gt'))).set 16 (.map (some gp'))=scl (overE s re) { h with gt:=gt',gp:=gp' } by intro gt' gp';rw[hS2,hS1,hSL];rfl)
 have hs2:St w0 X (.blk g 112 SL::L) w:=by rw[hSL];exact hs
 clear hs hSL hS1 hS2
 have hs:=hs2
 clear hs2
 go_enter Tryz.func122,Tryz.ntmps122
 go_upto_region 1 with (first|((with_reducible refine Se.iN ?_);(refine Se.Soq 0 hs rfl rfl rfl (by first|(rw[SLL.out];omega)|(rw[S1L.out];omega)) (by first|exact E1.out|exact E2.out) ?_;clear hs;intro w hs;try simp only[pS] at hs)))
 go_wp2_with (first|((with_reducible refine Se.iL 13 ?_);(refine Se.toL rfl (Se.mmk (o:=⟨some 13,_,_,_,_,_⟩) hs .u16 rfl ?_);clear hs;rintro w gt-hs))|((with_reducible refine Se.iL 14 ?_);(refine Se.toL rfl (Se.mmk (o:=⟨some 14,_,_,_,_,_⟩) hs .u16 rfl ?_);clear hs;rintro w gp-hs))|((with_reducible refine Se.iN ?_);(refine Se.Soq 2 hs rfl rfl rfl (by first|(rw[S2L.out];omega)|(rw[List.length_set,S2L.out];omega)) (rfl) ?_;clear hs;intro w hs;try simp only[pS] at hs)))
 rw[ES.out] at hs;refine bodyPost_end (results_none rfl _ _ _) rfl ?_;exact⟨rfl,gt,gp,hs⟩
theorem bd_end(st:BitVec 16)(w:World):(Instr.build 65 #[(0,.int .u8 3),(11,.int .u16 (n16 st))]).run Tryz.prog w=.ok (.agg (pc { k:=3#8,st:=st } none 0 0 none 0 0).toArray) w:=by kernel_rfl
theorem end_st{g:Nat}{s:Ss}{h:Hs}{ro:Option Nat}(hs:St w0 X (qS g s h::qU ro s h::L) w)(re:Nat)(hb:(endE s re).out.length<=70368744177664) :
  Calls Tryz.prog 89 #[.pointer (some ⟨g,0,none⟩),iv re] w fun e w'=>∃ ro' OB' oc' gt' gp',e=.returned (.tuple #[])/\St w0 X (mp gp' .u16 []::mp gt' .u16 []::qS g (endE s re) { h with OB:=OB',oc:=oc',gt:=gt',gp:=gp' }::qU ro' (endE s re) { h with OB:=OB',oc:=oc' }::L) w':=by
 have B:=Lib.hid (bd_end (BitVec.ofNat 16 re))
 have hw:IntKind.u16.wrap (re:Int)=n16 (BitVec.ofNat 16 re):=by unfold n16;simp[IntKind.wrap,IntKind.bits,IntKind.signed]
 obtain⟨p,hp⟩:∃ p:PDU,p={ h:={ k:=3#8,st:=BitVec.ofNat 16 re } }:=⟨_,rfl⟩
 have C1:Hid (∀ w,St w0 X (qS g s h::qU ro s h::L) w->Calls Tryz.prog 93 #[.pointer (some ⟨g,0,none⟩),.agg (pc p.h none 0 0 none 0 0).toArray] w fun e w'=>∃ ro' OB' oc',e=.returned (.tuple #[])/\St w0 X (qS g (sendE s p) { h with OB:=OB',oc:=oc' }::qU ro' (sendE s p) { h with OB:=OB',oc:=oc' }::L) w'):=Lib.hid (fun w hs=>send_st hs p (by rw[hp];exact Reads.nil) (by rw[hp];exact Reads.nil) (by rw[hp];rfl) (by rw[hp];rfl) (by omega) (by omega) (by rw[hp];exact hb))
 have HP:=Lib.hid hp
 have HE:=Lib.hid (show overE (sendE s p) re=endE s re by rw[hp];rfl)
 obtain⟨PV,hPV⟩:∃ PV,PV=pc p.h none 0 0 none 0 0:=⟨_,rfl⟩
 rw[<-hPV] at C1;rw[show pc { k:=3#8,st:=BitVec.ofNat 16 re } none 0 0 none 0 0=PV by rw[hPV,hp]] at B;clear hp hPV hb
 go_enter Tryz.func89,Tryz.ntmps89
 go_wp2_with (first|((with_reducible refine Se.iL 7 ?_);(refine Se.Bd rfl rfl (B.out _) ?_))|(go_at_call 93;refine Calls.mono (C1.out _ hs) ?_;clear hs;rintro e w ⟨ro',OB',oc',rfl,hs⟩)|(go_at_call 122;refine Calls.mono (over_st hs re) ?_;clear hs;rintro e w ⟨gt',gp',rfl,hs⟩))
 rw[HE.out] at hs;refine bodyPost_end (results_none rfl _ _ _) rfl ?_;exact⟨ro',OB',oc',gt',gp',rfl,by rw[<-HE.out] at hs ⊢;exact hs⟩
end Sn
end Go.Proofs.YtjnllcnknjlmmaaGreat
