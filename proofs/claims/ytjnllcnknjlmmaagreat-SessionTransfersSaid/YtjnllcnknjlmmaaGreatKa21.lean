/- Layer 41. -/
import Derived.RangeFuncBound
import Derived.Test.YtjnllcnknjlmmaaGreatKa16
import Derived.Test.YtjnllcnknjlmmaaGreatKa20
set_option linter.unusedSimpArgs false
set_option linter.unusedVariables false
set_option maxRecDepth 100000
set_option maxHeartbeats 4000000
namespace Go.Proofs.YtjnllcnknjlmmaaGreat
open Go Go.RowKit
namespace Sn
open Sr (pR pO)
open Se (St At Reads Cell mp dpc)
open Su (us srt u16)
variable {w0 w:World} {X:List Nat} {L:List At}
attribute [local irreducible] Calls
theorem zSu:(Tryz.prog.info? 26).bind (fun i=>i.zero.map (·.cells.toList))=some [.slice none 0 0]:=by kernel_rfl
theorem perm6(N R:List At)(a b c d e f:At):(N++a::b::c::d::e::f::R).Perm (c::e::f::a::b::d::(N++R)) :=
 (List.perm_append_comm_assoc N [a,b,c,d,e,f] R).trans ((List.perm_append_comm_assoc [a,b] [c] _).trans (List.Perm.cons c (List.perm_append_comm_assoc [a,b,d] [e,f] _)))
theorem res_cell1{fn:Func}{tmps:Array Value}{p:Tmp}{ty:TypeId}{g i:Nat}{v:Value}(hs:St w0 X L w)(hr:fn.results=#[.cell p ty])(hp:tmps.getD p undef=.pointer (some ⟨g,i,none⟩))(hc:Cell L g i v)(hd:(Tryz.prog.underlying ty).map TypeDesc.isRow=some false):(results fn tmps).run Tryz.prog w=.ok v w:=by
 have h:=Se.run_loadAt_cell (P:=Tryz.prog) (w:=w) hd (hc w hs.hold)
 have h2:(loadVar ty ⟨g,i,none⟩).run Tryz.prog w=.ok v w:=by simpa [Instr.loadAt,Instr.sureAddr] using h
 have hp':tmps[p]?.getD undef=.pointer (some ⟨g,i,none⟩):=by simpa using hp
 simp[results,hr,hp',asAddr,h2]
theorem ids_st{g:Nat}(hs:St w0 X L w):Calls Tryz.prog 91 #[.pointer (some ⟨g,0,none⟩)] w fun e w'=>∃ gb,e=.returned (.func (.func 123) #[] #[.pointer (some ⟨gb,0,none⟩)])/\St w0 X (.blk gb 83 [.pointer (some ⟨g,0,none⟩)]::L) w':=by
 go_enter Tryz.func91,Tryz.ntmps91
 go_wp2_with (first|((with_reducible refine Se.iL 1 ?_);(refine Se.toL rfl (Se.bx hs rfl rfl (l:=[.pointer (some ⟨g,0,none⟩)]) rfl ?_);clear hs;rintro w g1-hs))|((first|with_reducible refine Se.ab hs ?_|with_reducible refine Se.abc hs ?_);clear hs;(first|(generalize w.heap.size=g1;intro w hs))))
 go_ret;exact⟨g1,rfl,hs⟩
theorem outst_m(N:List At){g:Nat}{s:Ss}{f:Pf}(hs:St w0 X (N++FF g s f L) w)(ok:OkP s f.k)(hl:s.tx.length+s.rp.length<=12) :
  Calls Tryz.prog 42 #[.pointer (some ⟨g,0,none⟩)] w fun e w'=>∃ A r c,e=.returned (.slice A (outZ s).length c)/\St w0 X (.own 1 r A (outZ s).length c (us (outZ s))::(N++FF g s f L)) w':=by
 obtain⟨Lr,hLr⟩:∃ Lr,Lr=pR f.k.h.gr s.r f.rB f.rc::pO f.rr f.rB f.rc s.r::qU f.k.ro s f.k.h::(N++(.own 67 f.k.rq f.k.h.RB s.rd.length f.k.h.rc (rqs f.k.rl)::(tAs f.k.tl++(qAs f.k.rl++L)))):=⟨_,rfl⟩
 have hs2:St w0 X (qS g s f.k.h::mp f.k.h.gt .u16 (tPs f.k.tl)::mp f.k.h.gp .u16 (rPs s.rp)::Lr) w:=by rw[hLr];exact hs.perm (perm6 _ _ _ _ _ _ _ _)
 have HB:Hid (∀ (a:At) w',St w0 X (a::(qS g s f.k.h::mp f.k.h.gt .u16 (tPs f.k.tl)::mp f.k.h.gp .u16 (rPs s.rp)::Lr)) w'->St w0 X (a::(N++FF g s f L)) w'):=Lib.hid (fun a w' h=>by rw[hLr] at h;exact h.perm (List.Perm.cons a (perm6 _ _ _ _ _ _ _ _).symm))
 have SQ:=fun g1=>Lib.hid (ids_seq (g1:=g1) (g:=g) ok hl)
 obtain⟨zs,hzs⟩:∃ zs,zs=outZ s:=⟨_,rfl⟩
 have HZL:=Lib.hid (show zs.length<=12 by
  rw[hzs,<-outZ_srt];unfold srt;rw[List.length_mergeSort];simpa using hl)
 rw[<-hzs] at SQ ⊢
 have CNo:Hid (∀ (a:At) w,St w0 X (a::qS g s f.k.h::mp f.k.h.gt .u16 (tPs f.k.tl)::mp f.k.h.gp .u16 (rPs s.rp)::Lr) w->Calls Tryz.prog 87 #[.pointer (some ⟨g,0,none⟩)] w fun e w'=>e=.returned (.bool false)/\St w0 X (a::qS g s f.k.h::mp f.k.h.gt .u16 (tPs f.k.tl)::mp f.k.h.gp .u16 (rPs s.rp)::Lr) w'):=Lib.hid (fun a w hs=>by
  refine(none_st (St.swapA [a] [_] hs)).mono ?_;rintro e w' ⟨h1,h2⟩;exact⟨h1,St.swapA [_] [a] h2⟩)
 clear hs ok hl hzs hLr
 have hs:=hs2
 clear hs2;refine Se.enterM Tryz.func42 rfl ?_;simp only[Tryz.ntmps42,List.size_toArray,List.length_cons,List.length_nil,Nat.reduceAdd,Nat.reduceSub,Array.replicate_succ,Array.replicate_zero,List.push_toArray,List.append_toArray,List.nil_append,List.cons_append]
 go_wp2_with (first|((with_reducible refine Se.iL 2 ?_);(refine Se.Al hs rfl (zSu) ?_;clear hs;rintro w g2-hs))|(go_at_call 87;refine Calls.mono (CNo.out _ _ hs) ?_;clear hs;rintro e w ⟨rfl,hs⟩)|(go_at_call 91;refine Calls.mono (ids_st hs) ?_;clear hs;rintro e w ⟨g1,rfl,hs⟩))
 have hs:=hs.perm (L':=[sB g2 none 0 0]++(iM g1 g s f.k++Lr)) (List.perm_append_comm_assoc [_] [_] _)
 have hs:St w0 X ([.own 1 none none 0 0 (us []),sB g2 none 0 0]++(iM g1 g s f.k++Lr)) w:=hs.nil_own 1 none
 have SG:=SQ g1
 clear SQ CNo;refine Se.rangeG (M:=fun k:Nat × List At=>k.2) (Me:=fun _=>iM g1 g s f.k) (i0:=(0,iM g1 g s f.k)) (R:=fun(k:Nat × List At) (z:Int) (k':Nat × List At)=>zs[k.1]? = some z/\k'.1=k.1+1) (Dn:=fun(k:Nat × List At)=>k.1=zs.length) (encs:=fun z:Int=>#[.int .u16 z]) (lb:=#[.pointer (some ⟨g1,0,none⟩)]) hs rfl (Go.Proofs.enters_of Tryz.func123 (by kernel_rfl) rfl) SG.out (fun _=>rfl)
  (fun k Lb=>k.1<=zs.length/\∃ A' r' c',Lb=[.own 1 r' A' k.1 c' (us (zs.take k.1)),sB g2 A' k.1 c'])
  (fun _ _ _=>False) ⟨Nat.zero_le _,none,none,0,by simp⟩ ?_ ?_ ?_
 ·rintro l k z k' Lb w T ⟨hk,hk1⟩ ⟨hle,A',r',c',rfl⟩ hs
  obtain⟨m,hm⟩:∃ m,m=k.1:=⟨_,rfl⟩
  have hlt:m<zs.length:=by rw[hm];exact(List.getElem?_eq_some_iff.1 hk).1
  have HX:Hid (k'.1<=zs.length/\∀ A2 r2 c2,([.own 1 r2 A2 (m+1) c2 (us (zs.take m)++[.int .u16 z]),sB g2 A2 (m+1) c2]:List At)=[.own 1 r2 A2 k'.1 c2 (us (zs.take k'.1)),sB g2 A2 k'.1 c2]):=Lib.hid ⟨by omega,fun A2 r2 c2=>by
   have e1:k'.1=m+1:=by omega
   have e2:us (zs.take k'.1)=us (zs.take m)++[.int .u16 z]:=by rw[e1,List.take_add_one,us_app,hm,hk];rfl
   rw[e1] at e2 ⊢;rw[e2]⟩
  have hm2:m+1<=12:=by have:=HZL.out;omega
  rw[<-hm] at hs;simp only[List.cons_append,List.nil_append] at hs;rw[zip1u];simp only[List.setIfInBounds_toArray,List.set_cons_zero,List.set_cons_succ];clear hk hm hle hlt hk1
  repeat (first|refine wpIn_block ?_|refine wpIn_seq ?_)
  refine Se.regI (by repeat (first|exact Se.roundSt_out|exact Se.falsePost_out|refine Se.then_out ?_|refine Se.block_out ?_)) (by rfl) ?_
  go_wp2_with fail
  (try simp only[Exit.then])
  refine⟨[.own 1 r' A' m c' (us (zs.take m)),sB g2 A' m c'],hs,?_⟩;clear hs;clear w T;intro w T hs;simp only[List.cons_append,List.nil_append] at hs
  repeat (first|refine wpIn_block ?_|refine wpIn_seq ?_)
  refine Se.regI (by repeat (first|exact Se.roundSt_out|exact Se.falsePost_out|refine Se.then_out ?_|refine Se.block_out ?_)) (by rfl) ?_
  go_wp2_with (first|((with_reducible refine Se.iL 9 ?_);(refine Se.Ld hs rfl rfl (Cell.blk 1 rfl rfl) ?_))|((with_reducible refine Se.iL 11 ?_);(refine Se.toL rfl (Se.bsv (o:=⟨some 11,_,_,_,_,_⟩) hs rfl Tryz.underlying26 u16_i rfl ([.int .u16 z]) (by rfl) (by rfl) (by decide) (by decide) (by simp[Value.oneCell']) ?_);clear hs;rintro w g10-hs))|((with_reducible refine Se.iL 12 ?_);(refine Se.toL rfl (Se.ap (o:=⟨some 12,_,_,_,_,_⟩) 1 hs rfl rfl rfl rfl (Reads.blk 0 rfl) Tryz.underlying26 u16_i3 (rfl) (by decide) (by simp[Value.oneCell']) (rfl) (by omega) (by omega) ?_);clear hs;rintro w r2 B2 c2 hs;try simp only[pS] at hs;try simp only[Nat.zero_add,List.nil_append] at hs;try simp only[Nat.zero_add]))|((with_reducible refine Se.iN ?_);(refine Se.So 2 hs rfl rfl rfl (by simp) ?_;clear hs;intro w hs;try simp only[pS] at hs)))
  (try simp only[Exit.then])
  refine⟨_,⟨HX.out.1,B2,r2,c2,rfl⟩,?_⟩;rw[<-HX.out.2];exact hs.drop
 ·rintro D k Lb w hk ⟨hle,A',r',c',rfl⟩ hs
  simp only[Exit.inBlock,Exit.then]
  go_at_K
  have HK:=Lib.hid hk
  clear hk hle
  obtain⟨k1,k2⟩:=k
  replace HK:=Lib.hid (show k1=zs.length from HK.out)
  simp only[List.cons_append,List.nil_append] at hs
  go_wp2_with (first|((with_reducible refine Se.iL 13 ?_);(refine Se.Ld hs rfl rfl (Cell.blk 1 rfl rfl) ?_))|((with_reducible refine Se.iN ?_);(refine Se.So 1 hs rfl rfl rfl (by simp) ?_;clear hs;intro w hs;try simp only[pS] at hs)))
  have hs:St w0 X ([.own 1 r' A' k1 c' (us (zs.take k1)),sB g2 A' k1 c']++(iM g1 g s f.k++(dpc D::Lr))) w:=hs
  refine Se.leave1 (Se.St.mid hs) ?_;clear hs;intro w hs;refine Se.leave0 (res_cell1 hs rfl rfl (Cell.blk 1 rfl rfl) (by kernel_rfl)) ?_
  obtain rfl:=HK.out
  refine⟨A',r',c',rfl,HB.out _ _ ?_⟩;simp only[List.cons_append,List.nil_append] at hs;rw[List.take_length] at hs;exact hs.sub (List.Sublist.cons_cons _ (List.Sublist.cons _ (List.Sublist.cons _ (List.Sublist.refl _))))
 ·rintro D c k Lb w h
  exact h.elim
end Sn
end Go.Proofs.YtjnllcnknjlmmaaGreat
namespace Go.Proofs.YtjnllcnknjlmmaaGreat
open Go Go.RowKit
namespace Sn
open Pd (PDU pc iv)
open Se (St At Cell SeqG)
open Li (Blk)
open Bv (n16 n32)
variable {w0 w:World} {X:List Nat} {L:List At}
attribute [local irreducible] Calls
abbrev cM(ga gb:Nat)(A:Option Addr)(n c md:Nat):List At:=[.blk ga 24 [.slice A n c],.blk gb 3 [iv md]]
def CSeq(gf:Nat)(lb:Array Value)(M:List At)(gd od n md:Nat):Prop :=
 SeqG Tryz.prog gf lb (fun v:Value=>#[v]) (fun(k:Nat) v (k':Nat)=>k<n/\v=.slice (some ⟨gd,od+k,none⟩) (min md (n-k)) (min md (n-k))/\k'=k+md) (fun k=>n<=k) (fun _=>M) (fun _=>M) 0
theorem chunk_st{A:Option Addr}{n c md:Nat}(hs:St w0 X L w)(hmd:1<=md):Calls Tryz.prog 92 #[.slice A n c,iv md] w fun e w'=>∃ ga gb,e=.returned (.func (.func 127) #[] #[.pointer (some ⟨ga,0,none⟩),.pointer (some ⟨gb,0,none⟩)])/\St w0 X (cM ga gb A n c md++L) w':=by
 have hlt:decide ((md:Int)<1)=false:=by simp;omega
 clear hmd
 go_enter Tryz.func92,Tryz.ntmps92
 go_wp2_with (first|((with_reducible refine Se.iL 2 ?_);(refine Se.toL rfl (Se.bx (o:=⟨some 2,_,_,_,_,_⟩) hs rfl rfl (l:=[.slice A n c]) rfl ?_);clear hs;rintro w ga-hs))|((with_reducible refine Se.iL 3 ?_);(refine Se.toL rfl (Se.bx (o:=⟨some 3,_,_,_,_,_⟩) hs rfl rfl (l:=[iv md]) rfl ?_);clear hs;rintro w gb-hs))|((with_reducible refine Se.iL 5 ?_);(refine Se.Ld hs rfl rfl (Cell.blk 0 rfl rfl) ?_))|((first|with_reducible refine Se.ab hs ?_|with_reducible refine Se.abc hs ?_);clear hs;(first|(generalize w.heap.size=ga;intro w hs)))|((first|with_reducible refine Se.ab hs ?_|with_reducible refine Se.abc hs ?_);clear hs;(first|(generalize w.heap.size=gb;intro w hs))))
 go_ret;exact⟨ga,gb,rfl,hs.perm (List.Perm.swap _ _ _)⟩
theorem chunk_seq{ga gb gd od n c md:Nat}{A:Option Addr}(hA:0<n->A=some ⟨gd,od,none⟩)(h1:1<=md)(h2:md<=1048576)(hn:n<=70368744177664)(hc:n<=c):CSeq 127 #[.pointer (some ⟨ga,0,none⟩),.pointer (some ⟨gb,0,none⟩)] (cM ga gb A n c md) gd od n md:=by
 intro y w0 X J Jx hY T w h0 hs;simp only[List.cons_append,List.nil_append] at hs
 have HY:=Lib.hid hY
 have H0:=Lib.hid h0
 rw[show(#[Value.func (.yield y) #[] #[]]++#[Value.pointer (some ⟨ga,0,none⟩),.pointer (some ⟨gb,0,none⟩)]:Array Value)=#[.func (.yield y) #[] #[],.pointer (some ⟨ga,0,none⟩),.pointer (some ⟨gb,0,none⟩)] from rfl];clear hY h0
 have HA:=Lib.hid hA
 clear hA
 have SA:=Lib.hid (show ∀ T w',St w0 X (cM ga gb A n c md++T) w'->Blk w' ga [.slice A n c] 24/\Blk w' gb [iv md] 3 from fun T w' h=>⟨h.hold (.blk ga 24 [.slice A n c]) (by simp),h.hold (.blk gb 3 [iv md]) (by simp)⟩)
 go_enter Tryz.func127,Tryz.ntmps127
 go_wp2_with fail
 go_loopg [4] (n+md-0) (fun gh s4 wr=>∃ (i:Nat) (T':List At),gh=n+md-i/\i<n+md/\s4=.int .i64 (i:Nat)/\Hid (J i T')/\St w0 X (.blk ga 24 [.slice A n c]::.blk gb 3 [iv md]::T') wr)
 case atStart=>exact⟨0,T,rfl,by omega,rfl,H0,hs⟩
 case round =>
  clear hs H0 T
  rename World=>w
  obtain⟨i,T,rfl,hi,rfl,HJ,hs⟩:=hrel
  by_cases hlt:i<n
  ·have hlt':decide ((i:Int)<(n:Int))=true:=by simp;omega
   obtain rfl:=HA.out (by omega)
   obtain⟨q,hq⟩:∃ q,q=min md (n-i):=⟨_,rfl⟩
   have YY:=Lib.hid (show ∀ W,St w0 X (cM ga gb (some ⟨gd,od,none⟩) n c md++T) W->_ from fun W h=>HY.out i (.slice (some ⟨gd,od+i,none⟩) q q) (i+md) ⟨hlt,by rw[hq],rfl⟩ T W HJ.out h)
   have hw:=IntWalk.i64_in ((i:Int)+md) (by omega)
   have hle1:i<=n:=by omega
   have hqn:i+q<=n:=by omega
   have hqc:i+q<=c:=by omega
   obtain⟨e,he⟩:∃ e,e=i+q:=⟨_,rfl⟩
   have hw2:IntKind.i64.wrap ((i:Int)+(q:Int))=(e:Int):=by rw[IntWalk.i64_in ((i:Int)+q) (by omega),he];omega
   have hei:e-i=q:=by omega
   have hec:(e:Int)<=(c:Int):=by omega
   have hec2:e<=c:=by omega
   have hie:i<=e:=by omega
   have HMIN:=Lib.hid (show(if n-i<md then ((n-i:Nat):Int) else (md:Int))=(q:Int) by rw[hq];split <;> omega)
   have hq0:0<q:=by omega
   have hen:¬ e=i:=by omega
   clear hq he hqn hqc
   go_upto_region 2 with (first|((with_reducible refine Se.iL 7 ?_);(refine Se.Ld hs rfl rfl (Cell.blk 0 rfl rfl) ?_)))
   refine Ch.region' 7 (fun wx=>Blk wx ga [.slice (some ⟨gd,od,none⟩) n c] 24/\Blk wx gb [iv md] 3) (fun |_=>false) (by kernel_rfl) (by decide +kernel) (SA.out _ _ hs.drew) ?_;replace hs:=hs.drew;generalize w.drew=w at hs ⊢;change Ch.CW _ _ _ _ _ [0,1,2,3,4,5,6] _ _
   iterate 7 ((first|refine Ch.pA ?_|refine Ch.pE (hv:=fun wx hS=>Se.xL (hc:=(hS.1.cell _))) (h:=?_)|refine Ch.pE (hv:=fun wx hS=>Se.xL (hc:=(hS.2.cell _))) (h:=?_));(try simp only[pU]))
   refine Ch.done ?_
   try simp only[List.drop_succ_cons,List.drop_zero]
   rw[HMIN.out]
   go_upto_region 4 with (fail)
   refine(Se.wp_WF (n:=0)).1 (wpIn_region_lit ?_)
   iterate 1 (refine Se.qLI (by intro _ h;cases h) (by rfl) (v:=?_) ?_ ?_;rotate_left;(focus (go_simp;(first|done|with_reducible rfl)));(try simp only[pU]))
   refine Se.toLI (by intro _ h;cases h) (by rfl) ?_;refine Se.ld hs rfl rfl (Cell.blk 0 rfl rfl) (by kernel_rfl) ?_;(try simp only[pU])
   iterate 8 (refine Se.qLI (by intro _ h;cases h) (by rfl) (v:=?_) ?_ ?_;rotate_left;(focus (go_simp;(first|done|with_reducible rfl)));(try simp only[pU]))
   refine Se.ylI (by intro _ h;cases h) (by rfl) (l:=y) (args:=#[.slice (some ⟨gd,od+i,none⟩) q q]) (by go_simp) (Se.yieldMono (YY.out w hs) rfl ?_);clear hs YY;rintro ee w (⟨rfl,T',HJ',hs⟩|⟨rfl,T',HJ',hs⟩)
   ·have HJ':=Lib.hid HJ'
    simp only[List.cons_append,List.nil_append] at hs;refine⟨_,rfl,?_⟩;(try simp only[pU])
    iterate 1 (refine Se.qLI (by intro _ h;cases h) (by rfl) (v:=?_) ?_ ?_;rotate_left;(focus (go_simp;(first|done|with_reducible rfl)));(try simp only[pU]))
    refine wpListIn_nil ?_;simp only[Exit.then]
    go_at_K
    go_wp2_with (first|((with_reducible refine Se.iL 11 ?_);(refine Se.Ld hs rfl rfl (Cell.blk 1 rfl rfl) ?_)))
    go_roundg (n+md-(i+md))
    case measure=>omega
    case rel=>exact⟨i+md,T',rfl,by omega,by go_num,HJ',hs⟩
   ·refine⟨_,rfl,?_⟩
    (try simp only[pU])
    iterate 1 (refine Se.qLI (by intro _ h;cases h) (by rfl) (v:=?_) ?_ ?_;rotate_left;(focus (go_simp;(first|done|with_reducible rfl)));(try simp only[pU]))
    refine wpListIn_nil ?_;simp only[Exit.then]
    go_at_K
    go_wp2_with fail
    exact⟨rfl,_,results_none rfl _ _ _,⟨_,rfl⟩,.inr ⟨_,T',HJ',hs⟩⟩
  ·have hlt':decide ((i:Int)<(n:Int))=false:=by simp;omega
   go_wp2_with (first|((with_reducible refine Se.iL 7 ?_);(refine Se.Ld hs rfl rfl (Cell.blk 0 rfl rfl) ?_)))
   refine⟨rfl,_,results_none rfl _ _ _,⟨_,rfl⟩,.inl ⟨i,T,by omega,HJ.out,hs⟩⟩
theorem bd_piece(id:BitVec 16)(f:BitVec 32)(la:Bool)(A:Option Addr)(n c:Nat)(w:World):(Instr.build 65 #[(0,.int .u8 7),(4,.int .u16 (n16 id)),(6,.int .u32 (n32 f)),(1,.bool la),(13,.slice A n c)]).run Tryz.prog w=.ok (.agg (pc { k:=7#8,id:=id,of:=f,la:=la } none 0 0 A n c).toArray) w:=by kernel_rfl
theorem bd_entry(A:Option Addr)(n c:Nat)(w:World):(Instr.build 65 #[(0,.int .u8 5),(3,.slice A n c)]).run Tryz.prog w=.ok (.agg (pc { k:=5#8 } A n c none 0 0).toArray) w:=by kernel_rfl
theorem zIn:(Tryz.prog.info? 3).bind (fun i=>i.zero.map (·.cells.toList))=some [iv 0]:=by kernel_rfl
theorem replyL_end{md:Nat}{id:BitVec 16}{da:Bs}{k:Nat}(h:da.length<=k):∀ f,replyL md id da f k=[]:=by
 intro f
 cases f with
 | zero=>rfl
 | succ f=>show(if da.length<=k then [] else _)=[];rw[if_pos h]
def pieceP(md:Nat)(id:BitVec 16)(da:Bs)(k:Nat):PDU:={ h:={ k:=7#8,id:=id,of:=BitVec.ofNat 32 k,la:=decide (min (k+md) da.length=da.length) },da:=(da.drop k).take md }
theorem replyL_step{md:Nat}{id:BitVec 16}{da:Bs}{k f:Nat}(h:k<da.length)(hf:da.length+1<=k+f):∃ f',f=f'+1/\replyL md id da f k=pieceP md id da k::replyL md id da f' (k+md):=by
 obtain⟨f',rfl⟩:∃ f',f=f'+1:=⟨f-1,by omega⟩
 refine⟨f',rfl,?_⟩
 show(if da.length<=k then [] else _)=_
 rw[if_neg (by omega)]
 rfl
theorem send_len(s:Ss)(p:PDU):(sendE s p).out.length<=s.out.length+2097152:=by
 show(s.out++_).length<=_
 rw[List.length_append]
 have:=encE_le p s.f
 omega
theorem ar4{o1 o a b K M n:Nat}(h1:o1<=o+K*a)(h2:a+1<=b)(h3:b<=n)(h4:o+K*n<=M):o1+K<=o+K*b/\o1+K<=M:=by
 have e1:K*(a+1)<=K*b:=Nat.mul_le_mul_left K h2
 have e2:K*b<=K*n:=Nat.mul_le_mul_left K h3
 rw[Nat.mul_succ] at e1;omega
end Sn
end Go.Proofs.YtjnllcnknjlmmaaGreat
namespace Go.Proofs.YtjnllcnknjlmmaaGreat
open Go Go.RowKit
namespace Sn
open Pd (PDU pc iv)
open Sr (pR pO)
open Se (St At Reads Cell mp dpc)
open Li (v8 Blk)
open Bv (n16 n32)
variable {w0 w:World} {X:List Nat} {L:List At}
attribute [local irreducible] Calls
theorem reply0_st{R:List At}{g:Nat}{s:Ss}{h:Hs}{ro:Option Nat}(hs:St w0 X (qS g s h::qU ro s h::mp h.gp .u16 (rPs s.rp)::R) w)(id:BitVec 16)(en da:Bs)(he:en.length=16){A:Option Addr}{gd od n c:Nat}(hn:n=da.length)(hx:Reads R A (da.map v8))(hnc:n<=c)(hA:0<n->A=some ⟨gd,od,none⟩)(h1:1<=s.c.md)(h2:s.c.md<=1048576)(hb:s.out.length+2097152*(n+2)<=70368744177664){s':Ss}{e:Nat}(hr:replyE s id en da=(s',e)) :
  Calls Tryz.prog 46 #[.pointer (some ⟨g,0,none⟩),.int .u16 (n16 id),.agg (en.map v8).toArray,.slice A n c] w fun e' w'=>∃ ro' OB' oc',e'=.returned (iv e)/\St w0 X (qS g s' { h with OB:=OB',oc:=oc' }::qU ro' s' { h with OB:=OB',oc:=oc' }::mp h.gp .u16 (rPs s'.rp)::R) w':=by
 obtain⟨EV,hEV⟩:∃ EV,EV=en.map v8:=⟨_,rfl⟩
 have EVL:=Lib.hid (show EV.length=16 by rw[hEV,List.length_map,he])
 have EVO:=Lib.hid (show ∀ v∈EV,v.oneCell'=true by rw[hEV];intro v hv;obtain⟨b,_,rfl⟩:=List.mem_map.1 hv;rfl)
 have HEV:=Lib.hid hEV
 have HN:=Lib.hid hn
 have HX:=Lib.hid hx
 have HNC:=Lib.hid hnc
 have HA:=Lib.hid hA
 have HB:=Lib.hid hb
 have HM:=Lib.hid (show 1<=s.c.md/\s.c.md<=1048576 from⟨h1,h2⟩)
 have hnl:n<=70368744177664:=by omega
 have HE:=Lib.hid he
 have S8:=Lib.hid (scl_at s h).2.2.2.1
 have S4:=Lib.hid (scl_at s h).2.1
 have S16:=Lib.hid (scl_at s h).2.2.2.2.2.2.1
 obtain⟨st,hst⟩:∃ q,q=s.st:=⟨_,rfl⟩
 rw[<-hst] at S8
 obtain⟨md,hmd⟩:∃ q,q=s.c.md:=⟨_,rfl⟩
 rw[<-hmd] at S4 HM
 have HMD:=Lib.hid hmd
 clear hmd
 have HR:=Lib.hid hr
 have CNo:Hid (∀ (a b c d:At) w,St w0 X (a::b::c::d::qS g s h::qU ro s h::mp h.gp .u16 (rPs s.rp)::R) w->Calls Tryz.prog 87 #[.pointer (some ⟨g,0,none⟩)] w fun e w'=>e=.returned (.bool false)/\St w0 X (a::b::c::d::qS g s h::qU ro s h::mp h.gp .u16 (rPs s.rp)::R) w'):=Lib.hid (fun a b c d w hs=>by
  refine(none_st (St.swapA [a,b,c,d] [_] hs)).mono ?_;rintro e w' ⟨h1,h2⟩;exact⟨h1,St.swapA [_] [a,b,c,d] h2⟩)
 rw[<-hEV];clear hEV he hn hx hnc hA hb h1 h2 hr
 by_cases hs2:st=2
 rotate_left
 ·have hsti:((st:Int) != 2)=true:=by simp;omega
  have hr:=HR.out
  unfold replyE at hr;rw[if_pos (show s.st≠2 by rw[<-hst];exact hs2)] at hr
  have HR2:=Lib.hid hr
  clear hr hs2 hst;refine Se.enterM Tryz.func46 rfl ?_;simp only[Tryz.ntmps46,List.size_toArray,List.length_cons,List.length_nil,Nat.reduceAdd,Nat.reduceSub,Array.replicate_succ,Array.replicate_zero,List.push_toArray,List.append_toArray,List.nil_append,List.cons_append]
  go_upto_region 1 with (first|((with_reducible refine Se.iL 4 ?_);(refine Se.toL rfl (Se.bx (o:=⟨some 4,_,_,_,_,_⟩) hs rfl rfl (l:=[.pointer (some ⟨g,0,none⟩)]) rfl ?_);clear hs;rintro w g4-hs))|((with_reducible refine Se.iL 5 ?_);(refine Se.toL rfl (Se.bx (o:=⟨some 5,_,_,_,_,_⟩) hs rfl rfl (l:=[.int .u16 (n16 id)]) rfl ?_);clear hs;rintro w g5-hs))|((with_reducible refine Se.iL 6 ?_);(refine Se.toL rfl (Se.bx (o:=⟨some 6,_,_,_,_,_⟩) hs rfl rfl (l:=EV) rfl ?_);clear hs;rintro w g6-hs))|((with_reducible refine Se.iL 7 ?_);(refine Se.toL rfl (Se.bx (o:=⟨some 7,_,_,_,_,_⟩) hs rfl rfl (l:=[.slice A n c]) rfl ?_);clear hs;rintro w g7-hs))|((first|with_reducible refine Se.ab hs ?_|with_reducible refine Se.abc hs ?_);clear hs;(first|(generalize w.heap.size=g4;intro w hs)))|((first|with_reducible refine Se.ab hs ?_|with_reducible refine Se.abc hs ?_);clear hs;(first|(generalize w.heap.size=g5;intro w hs)))|((first|with_reducible refine Se.ab hs ?_|with_reducible refine Se.abc hs ?_);clear hs;(first|(generalize w.heap.size=g6;intro w hs)))|((first|with_reducible refine Se.ab hs ?_|with_reducible refine Se.abc hs ?_);clear hs;(first|(generalize w.heap.size=g7;intro w hs))))
  go_upto_region 3 with (first|((with_reducible refine Se.iL 14 ?_);(refine Se.Ld hs rfl rfl (Cell.blk 3 rfl rfl) ?_)))
  refine Calls.mono (CNo.out _ _ _ _ _ hs) ?_;clear hs;rintro e w⟨rfl,hs⟩
  go_wp2_with (first|((with_reducible refine Se.iL 17 ?_);(refine Se.Ld hs rfl rfl (Cell.blk 3 rfl rfl) ?_))|((with_reducible refine Se.iL 20 ?_);(refine Se.Ld hs rfl rfl (Cell.blk 4 rfl S8.out) ?_)))
  refine Se.leave0 (res1 rfl rfl) ?_
  cases HR2.out
  exact⟨ro,h.OB,h.oc,rfl,hs.drop.drop.drop.drop⟩
 have hsti:((st:Int) != 2)=false:=by simp;omega
 have HR1:=Lib.hid (show(match getA s.rp id with
  | none=>(s,9)
  | some m=>if m<da.length then (s,5) else (sendE ((replyL s.c.md id da (da.length+1) 0).foldl sendE { s with rp:=delA s.rp id }) { h:={ k:=5#8 },en:=en },0))=(s',e) from by
  have hr:=HR.out
  unfold replyE at hr;rw[if_neg (show ¬ s.st≠2 by rw[<-hst];exact fun h=>h hs2)] at hr;exact hr)
 clear HR hs2 hst
 obtain⟨b,m,HGP⟩:∃ b m,Hid ((Se.getP (rPs s.rp) (n16 id)).getD (iv 0)=iv m/\(Se.getP (rPs s.rp) (n16 id)).isSome=b/\((b=false/\getA s.rp id=none)\/(b=true/\getA s.rp id=some m))):=by
  unfold rPs;rw[getP_toP]
  cases hg:getA s.rp id with
  | none=>exact⟨false,0,Lib.hid ⟨rfl,rfl,.inl ⟨rfl,rfl⟩⟩⟩
  | some m=>exact⟨true,m,Lib.hid ⟨rfl,rfl,.inr ⟨rfl,rfl⟩⟩⟩
 refine Se.enterM Tryz.func46 rfl ?_;simp only[Tryz.ntmps46,List.size_toArray,List.length_cons,List.length_nil,Nat.reduceAdd,Nat.reduceSub,Array.replicate_succ,Array.replicate_zero,List.push_toArray,List.append_toArray,List.nil_append,List.cons_append]
 go_upto_region 1 with (first|((with_reducible refine Se.iL 4 ?_);(refine Se.toL rfl (Se.bx (o:=⟨some 4,_,_,_,_,_⟩) hs rfl rfl (l:=[.pointer (some ⟨g,0,none⟩)]) rfl ?_);clear hs;rintro w g4-hs))|((with_reducible refine Se.iL 5 ?_);(refine Se.toL rfl (Se.bx (o:=⟨some 5,_,_,_,_,_⟩) hs rfl rfl (l:=[.int .u16 (n16 id)]) rfl ?_);clear hs;rintro w g5-hs))|((with_reducible refine Se.iL 6 ?_);(refine Se.toL rfl (Se.bx (o:=⟨some 6,_,_,_,_,_⟩) hs rfl rfl (l:=EV) rfl ?_);clear hs;rintro w g6-hs))|((with_reducible refine Se.iL 7 ?_);(refine Se.toL rfl (Se.bx (o:=⟨some 7,_,_,_,_,_⟩) hs rfl rfl (l:=[.slice A n c]) rfl ?_);clear hs;rintro w g7-hs))|((first|with_reducible refine Se.ab hs ?_|with_reducible refine Se.abc hs ?_);clear hs;(first|(generalize w.heap.size=g4;intro w hs)))|((first|with_reducible refine Se.ab hs ?_|with_reducible refine Se.abc hs ?_);clear hs;(first|(generalize w.heap.size=g5;intro w hs)))|((first|with_reducible refine Se.ab hs ?_|with_reducible refine Se.abc hs ?_);clear hs;(first|(generalize w.heap.size=g6;intro w hs)))|((first|with_reducible refine Se.ab hs ?_|with_reducible refine Se.abc hs ?_);clear hs;(first|(generalize w.heap.size=g7;intro w hs))))
 go_upto_region 3 with (first|((with_reducible refine Se.iL 14 ?_);(refine Se.Ld hs rfl rfl (Cell.blk 3 rfl rfl) ?_)))
 refine Calls.mono (CNo.out _ _ _ _ _ hs) ?_;clear hs;rintro e w⟨rfl,hs⟩
 go_upto_region 5 with (first|((with_reducible refine Se.iL 17 ?_);(refine Se.Ld hs rfl rfl (Cell.blk 3 rfl rfl) ?_))|((with_reducible refine Se.iL 20 ?_);(refine Se.Ld hs rfl rfl (Cell.blk 4 rfl S8.out) ?_)))
 clear CNo;refine Ch.region' 11 (fun wx=>Blk wx g4 [.pointer (some ⟨g,0,none⟩)] 83/\Blk wx g5 [.int .u16 (n16 id)] 40/\Blk wx g (scl s h) 112/\Se.MP wx h.gp .u16 (rPs s.rp)) (fun |_=>false) (by kernel_rfl) (by decide +kernel) (⟨hs.drew.hold (.blk g4 83 [.pointer (some ⟨g,0,none⟩)]) (by simp),hs.drew.hold (.blk g5 40 [.int .u16 (n16 id)]) (by simp),hs.drew.hold (qS g s h) (by simp),hs.drew.hold (mp h.gp .u16 (rPs s.rp)) (by simp)⟩) ?_;replace hs:=hs.drew;generalize w.drew=w at hs ⊢;change Ch.CW _ _ _ _ _ [0,1,2,3,4,5,6,7,8,9,10] _ _
 iterate 11 ((first|refine Ch.pA ?_|refine Ch.pE (hv:=fun wx hS=>Se.xL (hc:=(hS.1.cell _))) (h:=?_)|refine Ch.pE (hv:=fun wx hS=>Se.xL (hc:=(hS.2.1.cell _))) (h:=?_)|refine Ch.pE (hv:=fun wx hS=>Se.xL (hc:=((hS.2.2.1.cell _).trans S16.out))) (h:=?_)|refine Ch.pE (hv:=fun wx hS=>Se.xmlq rfl rfl rfl hS.2.2.2 Tryz.underlying110 Tryz.underlying40 int_z2 HGP.out.1 HGP.out.2.1) (h:=?_));(try simp only[pU]))
 refine Ch.done ?_
 try simp only[List.drop_succ_cons,List.drop_zero]
 cases b with
 | false =>
  have HR2:=Lib.hid (show(s,9)=(s',e) from by
   have hr:=HR1.out
   rcases HGP.out.2.2 with ⟨_,hg⟩|⟨hg,_⟩
   ·rw[hg] at hr;exact hr
   ·exact absurd hg (by decide))
  go_wp2_with fail
  refine Se.leave0 (res1 rfl rfl) ?_
  cases HR2.out
  exact⟨rfl,ro,h.OB,h.oc,hs.drop.drop.drop.drop⟩
 | true =>
  have HR2:=Lib.hid (show(if m<n then (s,5) else (sendE ((replyL s.c.md id da (da.length+1) 0).foldl sendE { s with rp:=delA s.rp id }) { h:={ k:=5#8 },en:=en },0))=(s',e) from by
   have hr:=HR1.out
   rcases HGP.out.2.2 with ⟨hg,_⟩|⟨_,hg⟩
   ·exact absurd hg (by decide)
   ·rw[hg] at hr;rw[HN.out];exact hr)
  clear HR1 HGP
  by_cases hmn:m<n
  ·have hmi:decide ((m:Int)<(n:Int))=true:=by simp;omega
   have hmj:decide (m<n)=true:=by simpa using hmn
   have HR3:=Lib.hid (show(s,5)=(s',e) from by have hr:=HR2.out;rwa [if_pos hmn] at hr)
   clear hmn HR2
   go_wp2_with (first|((with_reducible refine Se.iL 35 ?_);(refine Se.Ld hs rfl rfl (Cell.blk 0 rfl rfl) ?_)))
   refine Se.leave0 (res1 rfl rfl) ?_
   cases HR3.out
   exact⟨ro,h.OB,h.oc,rfl,hs.drop.drop.drop.drop⟩
  ·have hmi:decide ((m:Int)<(n:Int))=false:=by simp;omega
   have hmj:decide (m<n)=false:=by simpa using hmn
   have HR3:=Lib.hid (show(sendE ((replyL s.c.md id da (da.length+1) 0).foldl sendE { s with rp:=delA s.rp id }) { h:={ k:=5#8 },en:=en },0)=(s',e) from by have hr:=HR2.out;rwa [if_neg hmn] at hr)
   clear hmn HR2
   go_upto_region 10 with (first|((with_reducible refine Se.iL 35 ?_);(refine Se.Ld hs rfl rfl (Cell.blk 0 rfl rfl) ?_)))
   clear hmi hmj hsti S8
   have ML:=Lib.hid (delP_toP (fun n=>iv n) s.rp id)
   refine Ch.region' 5 (fun wx=>(Blk wx g4 [.pointer (some ⟨g,0,none⟩)] 83/\Blk wx g5 [.int .u16 (n16 id)] 40/\Blk wx g7 [.slice A n c] 24/\Blk wx g6 EV 98)/\Blk wx g (scl s h) 112) (fun |_=>false) (by kernel_rfl) (by decide +kernel) (⟨⟨hs.drew.hold (.blk g4 83 [.pointer (some ⟨g,0,none⟩)]) (by simp),hs.drew.hold (.blk g5 40 [.int .u16 (n16 id)]) (by simp),hs.drew.hold (.blk g7 24 [.slice A n c]) (by simp),hs.drew.hold (.blk g6 98 EV) (by simp)⟩,hs.drew.hold (qS g s h) (by simp)⟩) ?_;replace hs:=hs.drew;generalize w.drew=w at hs ⊢;change Ch.CW _ _ _ _ _ [0,1,2,3,4] _ _
   iterate 5 ((first|refine Ch.pA ?_|refine Ch.pE (hv:=fun wx hS=>Se.xL (hc:=(hS.1.1.cell _))) (h:=?_)|refine Ch.pE (hv:=fun wx hS=>Se.xL (hc:=(hS.1.2.1.cell _))) (h:=?_)|refine Ch.pE (hv:=fun wx hS=>Se.xL (hc:=((hS.2.cell _).trans S16.out))) (h:=?_));(try simp only[pU]))
   refine Ch.done ?_
   try simp only[List.drop_succ_cons,List.drop_zero]
   go_upto_region 12 with (first|((with_reducible refine Se.iN ?_);(refine Se.toL rfl (Se.mdl 6 hs rfl rfl rfl rfl Tryz.underlying110 Tryz.underlying40 ?_);clear hs;intro w hs;try simp only[pS] at hs))|((with_reducible refine Se.iL 11 ?_);(refine Se.Al hs rfl (zIn) ?_;clear hs;rintro w g11-hs))|((with_reducible refine Se.iN ?_);(refine Se.So 0 hs rfl rfl rfl (by simp) ?_;clear hs;intro w hs;try simp only[pS] at hs)))
   refine Ch.region' 7 (fun wx=>(Blk wx g4 [.pointer (some ⟨g,0,none⟩)] 83/\Blk wx g5 [.int .u16 (n16 id)] 40/\Blk wx g7 [.slice A n c] 24/\Blk wx g6 EV 98)/\Blk wx g (scl s h) 112) (fun|6=>true|_=>false) (by kernel_rfl) (by decide +kernel) (⟨⟨hs.drew.hold (.blk g4 83 [.pointer (some ⟨g,0,none⟩)]) (by simp),hs.drew.hold (.blk g5 40 [.int .u16 (n16 id)]) (by simp),hs.drew.hold (.blk g7 24 [.slice A n c]) (by simp),hs.drew.hold (.blk g6 98 EV) (by simp)⟩,hs.drew.hold (qS g s h) (by simp)⟩) ?_;replace hs:=hs.drew;generalize w.drew=w at hs ⊢;change Ch.CW _ _ _ _ _ [0,1,2,3,4,5,6] _ _
   iterate 6 ((first|refine Ch.pA ?_|refine Ch.pE (hv:=fun wx hS=>Se.xL (hc:=(hS.1.1.cell _))) (h:=?_)|refine Ch.pE (hv:=fun wx hS=>Se.xL (hc:=(hS.1.2.2.1.cell _))) (h:=?_)|refine Ch.pE (hv:=fun wx hS=>Se.xL (hc:=((hS.2.cell _).trans S4.out))) (h:=?_));(try simp only[pU]))
   refine Ch.cA (f:=92) (args:=#[.slice A n c,iv md]) (chunk_st hs HM.out.1) ?_;clear hs;rintro e w⟨ga,gb,rfl,hs⟩;refine⟨_,rfl,⟨⟨hs.hold (.blk g4 83 [.pointer (some ⟨g,0,none⟩)]) (by simp),hs.hold (.blk g5 40 [.int .u16 (n16 id)]) (by simp),hs.hold (.blk g7 24 [.slice A n c]) (by simp),hs.hold (.blk g6 98 EV) (by simp)⟩,hs.hold (qS g s h) (by simp)⟩,?_⟩;(try simp only[pU]);refine Ch.done ?_
   try simp only[List.drop_succ_cons,List.drop_zero]
   go_wp2_with fail
   obtain⟨s0,hs0⟩:∃ q,q={ s with rp:=delA s.rp id }:=⟨_,rfl⟩
   obtain⟨s2,hs2⟩:∃ q,q=(replyL md id da (n+1) 0).foldl sendE s0:=⟨_,rfl⟩
   have HR4:=Lib.hid (show(sendE s2 { h:={ k:=5#8 },en:=en },0)=(s',e) from by rw[hs2,hs0,HMD.out,HN.out];exact HR3.out)
   have HS2:=Lib.hid hs2.symm
   have HB0:=Lib.hid (show s0.out.length+2097152*(n+2)<=70368744177664 from by rw[hs0];exact HB.out)
   have hsq:St w0 X ((.blk g11 3 [iv (min 0 n:Nat)]::.blk g7 24 [.slice A n c]::.blk g6 98 EV::.blk g5 40 [.int .u16 (n16 id)]::.blk g4 83 [.pointer (some ⟨g,0,none⟩)]::qS g s0 { h with OB:=h.OB,oc:=h.oc }::qU ro s0 { h with OB:=h.OB,oc:=h.oc }::mp h.gp .u16 (rPs s0.rp)::R)++(cM ga gb A n c md++[])) w:=by
    rw[Nat.zero_min,hs0]
    have h1:=hs.perm (L':=_++(cM ga gb A n c md++[])) (by rw[List.append_nil];exact List.perm_append_comm (l₁:=[_,_]))
    rw[show Se.delP (rPs s.rp) (n16 id)=rPs (delA s.rp id) from ML.out] at h1;exact h1
   clear hs
   have hs:=hsq
   clear hsq hs0;clear HR3 HB ML S16 S4 HMD hs2
   have HQ:=Lib.hid (chunk_seq (ga:=ga) (gb:=gb) (c:=c) HA.out HM.out.1 HM.out.2 hnl HNC.out)
   refine Se.rangeG (M:=fun _:Nat=>cM ga gb A n c md) (Me:=fun _=>cM ga gb A n c md) (i0:=0) (R:=fun(k:Nat) v (k':Nat)=>k<n/\v=.slice (some ⟨gd,od+k,none⟩) (min md (n-k)) (min md (n-k))/\k'=k+md) (Dn:=fun(k:Nat)=>n<=k) (encs:=fun v:Value=>#[v]) (lb:=#[.pointer (some ⟨ga,0,none⟩),.pointer (some ⟨gb,0,none⟩)]) hs rfl (Go.Proofs.enters_of Tryz.func127 (by kernel_rfl) rfl) HQ.out (fun _=>rfl)
    (fun k Lb=>∃ fu s1 ro1 OB1 oc1,Hid (n+1<=k+fu/\(replyL md id da fu k).foldl sendE s1=s2/\s1.rp=s0.rp/\s1.out.length<=s0.out.length+2097152*(min k n))/\Lb=(.blk g11 3 [iv (min k n:Nat)]::.blk g7 24 [.slice A n c]::.blk g6 98 EV::.blk g5 40 [.int .u16 (n16 id)]::.blk g4 83 [.pointer (some ⟨g,0,none⟩)]::qS g s1 { h with OB:=OB1,oc:=oc1 }::qU ro1 s1 { h with OB:=OB1,oc:=oc1 }::mp h.gp .u16 (rPs s0.rp)::R))
    (fun _ _ _=>False) ⟨n+1,s0,ro,h.OB,h.oc,Lib.hid ⟨by omega,HS2.out,rfl,Nat.le_add_right _ _⟩,rfl⟩ ?_ ?_ ?_
   ·clear hs HQ w
    rintro l k z k' Lb w T⟨hk,rfl,rfl⟩ ⟨fu,s1,ro1,OB1,oc1,HI,rfl⟩ hs
    obtain⟨q,hq⟩:∃ q,q=min md (n-k):=⟨_,rfl⟩
    obtain⟨e1,he1⟩:∃ e1,e1=min (k+md) n:=⟨_,rfl⟩
    have hm1:=HM.out.1
    have hm2:=HM.out.2
    have hmk:min k n=k:=by omega
    have heq:e1=k+q:=by omega
    have hq2:q<=1048576:=by omega
    have hke:k+1<=e1:=by omega
    have hen:e1<=n:=by omega
    obtain⟨fu',rfl,hst⟩:=replyL_step (md:=md) (id:=id) (da:=da) (k:=k) (f:=fu) (by rw[<-HN.out];exact hk) (by rw[<-HN.out];exact HI.out.1)
    have HFO:=Lib.hid (show(replyL md id da fu' (k+md)).foldl sendE (sendE s1 (pieceP md id da k))=s2 from by have h5:=HI.out.2.1;rw[hst] at h5;exact h5)
    have HAR:=Lib.hid (ar4 (b:=e1) (n:=n+2) (by have h5:=HI.out.2.2.2;rw[hmk] at h5;exact h5) hke (by omega) HB0.out)
    have HSL:=Lib.hid (send_len s1 (pieceP md id da k))
    rw[hmk] at hs
    obtain⟨la,hla⟩:∃ la,la=decide (e1=n):=⟨_,rfl⟩
    have HPH:=Lib.hid (show(pieceP md id da k).h={ k:=7#8,id:=id,of:=BitVec.ofNat 32 k,la:=la } from by rw[hla,he1,HN.out];rfl)
    have CSend:Hid (∀ (T:List At) (a b c' d e:At) w,St w0 X (a::b::c'::d::e::qS g s1 { h with OB:=OB1,oc:=oc1 }::qU ro1 s1 { h with OB:=OB1,oc:=oc1 }::mp h.gp .u16 (rPs s0.rp)::(R++T)) w->Calls Tryz.prog 93 #[.pointer (some ⟨g,0,none⟩),.agg (pc { k:=7#8,id:=id,of:=BitVec.ofNat 32 k,la:=la } none 0 0 (some ⟨gd,od+k,none⟩) q q).toArray] w fun e' w'=>∃ ro' OB' oc',e'=.returned (.tuple #[])/\St w0 X (a::b::c'::d::e::qS g (sendE s1 (pieceP md id da k)) { h with OB:=OB',oc:=oc' }::qU ro' (sendE s1 (pieceP md id da k)) { h with OB:=OB',oc:=oc' }::mp h.gp .u16 (rPs s0.rp)::(R++T)) w'):=Lib.hid (fun T a b c' d e w hs=>by
     have h5:=HX.out
     rw[HA.out (by omega)] at h5
     have h6:=(((h5.at k).take md).mono (L':=R++T) (fun _ h=>List.mem_append.2 (.inl h))).app (qS g s1 { h with OB:=OB1,oc:=oc1 }::qU ro1 s1 { h with OB:=OB1,oc:=oc1 }::a::b::c'::d::e::[mp h.gp .u16 (rPs s0.rp)])
     rw[<-List.map_drop,<-List.map_take] at h6;rw[<-HPH.out];refine(send_st (St.swapA [a,b,c',d,e] [_,_] hs) (pieceP md id da k) Reads.nil h6 rfl (by show q=((da.drop k).take md).length;rw[List.length_take,List.length_drop,<-HN.out,hq]) (Nat.zero_le _) (by omega) (Nat.le_trans HSL.out HAR.out.2)).mono ?_;rintro e' w' ⟨ro',OB',oc',h1,h2⟩;exact⟨ro',OB',oc',h1,St.swapA [_,_] [a,b,c',d,e] h2⟩)
    have hwr:IntKind.u32.wrap ((k:Nat):Int)=n32 (BitVec.ofNat 32 k):=n32_nat k
    have hwe:IntKind.i64.wrap ((k:Int)+(q:Int))=(e1:Int):=by rw[IntWalk.i64_in ((k:Int)+q) (by omega),heq];omega
    have hle:((e1:Int)==(n:Int))=la:=by rw[hla];simp only[BEq.beq];exact decide_eq_decide.2 (by omega)
    have HMN:Hid (min (k+md) n=e1):=Lib.hid he1.symm
    rw[<-hq];rw[zip1u];simp only[List.setIfInBounds_toArray,List.set_cons_zero,List.set_cons_succ];simp only[List.cons_append,List.nil_append] at hs
    have HI2:=Lib.hid (show n+1<=k+md+fu'/\(sendE s1 (pieceP md id da k)).rp=s0.rp/\(sendE s1 (pieceP md id da k)).out.length<=s0.out.length+2097152*e1 from⟨by have:=HI.out.1;omega,HI.out.2.2.1,Nat.le_trans HSL.out HAR.out.1⟩)
    clear HI HAR HSL hst hm1 hm2 hmk heq hke hen hq he1 hla HPH
    repeat (first|refine wpIn_block ?_|refine wpIn_seq ?_)
    refine Se.regI (by repeat (first|exact Se.roundSt_out|exact Se.falsePost_out|refine Se.then_out ?_|refine Se.block_out ?_)) (by rfl) ?_
    go_wp2_with fail
    (try simp only[Exit.then])
    refine⟨.blk g11 3 [iv (k:Nat)]::.blk g7 24 [.slice A n c]::.blk g6 98 EV::.blk g5 40 [.int .u16 (n16 id)]::.blk g4 83 [.pointer (some ⟨g,0,none⟩)]::qS g s1 { h with OB:=OB1,oc:=oc1 }::qU ro1 s1 { h with OB:=OB1,oc:=oc1 }::mp h.gp .u16 (rPs s0.rp)::R,hs,?_⟩;clear hs;clear w T;intro w T hs;simp only[List.cons_append,List.nil_append] at hs
    repeat (first|refine wpIn_block ?_|refine wpIn_seq ?_)
    refine Se.regI (by repeat (first|exact Se.roundSt_out|exact Se.falsePost_out|refine Se.then_out ?_|refine Se.block_out ?_)) (by rfl) ?_
    go_wp2_with (first|((with_reducible refine Se.iL 52 ?_);(refine Se.Ld hs rfl rfl (Cell.blk 4 rfl rfl) ?_))|((with_reducible refine Se.iL 53 ?_);(refine Se.Ld hs rfl rfl (Cell.blk 3 rfl rfl) ?_))|((with_reducible refine Se.iL 54 ?_);(refine Se.Ld hs rfl rfl (Cell.blk 0 rfl rfl) ?_))|((with_reducible refine Se.iL 56 ?_);(refine Se.Ld hs rfl rfl (Cell.blk 0 rfl rfl) ?_))|((with_reducible refine Se.iL 60 ?_);(refine Se.Ld hs rfl rfl (Cell.blk 1 rfl rfl) ?_))|((with_reducible refine Se.iL 64 ?_);(refine Se.Bd rfl rfl (bd_piece _ _ _ _ _ _ _) ?_)))
    refine Calls.mono (CSend.out _ _ _ _ _ _ _ hs) ?_;clear hs;rintro e w⟨ro',OB',oc',rfl,hs⟩
    go_wp2_with fail
    (try simp only[Exit.then])
    refine Se.regI (by repeat (first|exact Se.roundSt_out|exact Se.falsePost_out|refine Se.then_out ?_|refine Se.block_out ?_)) (by rfl) ?_
    go_wp2_with (first|((with_reducible refine Se.iL 66 ?_);(refine Se.Ld hs rfl rfl (Cell.blk 0 rfl rfl) ?_))|((with_reducible refine Se.iN ?_);(refine Se.So 0 hs rfl rfl rfl (by simp) ?_;clear hs;intro w hs;try simp only[pS] at hs)))
    (try simp only[Exit.inBlock])
    refine⟨_,⟨fu',sendE s1 (pieceP md id da k),ro',OB',oc',Lib.hid ⟨HI2.out.1,HFO.out,HI2.out.2.1,by rw[HMN.out];exact HI2.out.2.2⟩,rfl⟩,?_⟩;rw[HMN.out];exact hs
   ·clear HQ hs w
    rintro D k Lb w hk⟨fu,s1,ro1,OB1,oc1,HI,rfl⟩ hs
    obtain rfl:s1=s2:=by
     have h5:=HI.out.2.1
     rw[replyL_end (by rw[<-HN.out];exact hk)] at h5;exact h5
    have HRP:=Lib.hid HI.out.2.2.1
    have HBE:=Lib.hid (show(sendE s1 { h:={ k:=5#8 },en:=en }).out.length<=70368744177664 from Nat.le_trans (send_len _ _) (ar4 (b:=n+1) (n:=n+2) HI.out.2.2.2 (by omega) (by omega) HB0.out).2)
    have HM2:min k n=n:=by omega
    rw[HM2] at hs;clear HI hk HM2 HB0 HS2
    have CE:Hid (∀ w,St w0 X (.blk g11 3 [iv (n:Nat)]::.blk g7 24 [.slice A n c]::.blk g6 98 EV::.blk g5 40 [.int .u16 (n16 id)]::.blk g4 83 [.pointer (some ⟨g,0,none⟩)]::qS g s1 { h with OB:=OB1,oc:=oc1 }::qU ro1 s1 { h with OB:=OB1,oc:=oc1 }::mp h.gp .u16 (rPs s0.rp)::(R++(cM ga gb A n c md++[dpc D]))) w->Calls Tryz.prog 93 #[.pointer (some ⟨g,0,none⟩),.agg (pc { k:=5#8 } (some ⟨g6,0,none⟩) 16 16 none 0 0).toArray] w fun e' w'=>∃ ro' OB' oc',e'=.returned (.tuple #[])/\St w0 X (.blk g11 3 [iv (n:Nat)]::.blk g7 24 [.slice A n c]::.blk g6 98 EV::.blk g5 40 [.int .u16 (n16 id)]::.blk g4 83 [.pointer (some ⟨g,0,none⟩)]::qS g (sendE s1 { h:={ k:=5#8 },en:=en }) { h with OB:=OB',oc:=oc' }::qU ro' (sendE s1 { h:={ k:=5#8 },en:=en }) { h with OB:=OB',oc:=oc' }::mp h.gp .u16 (rPs s0.rp)::(R++(cM ga gb A n c md++[dpc D]))) w'):=Lib.hid (fun w hs=>by
     refine(send_st (St.swapA [.blk g11 3 [iv (n:Nat)],.blk g7 24 [.slice A n c],.blk g6 98 EV,.blk g5 40 [.int .u16 (n16 id)],.blk g4 83 [.pointer (some ⟨g,0,none⟩)]] [_,_] hs) { h:={ k:=5#8 },en:=en } (by rw[<-HEV.out];exact Reads.blk 4 rfl) Reads.nil HE.out.symm rfl (by omega) (Nat.zero_le _) HBE.out).mono ?_;rintro e' w' ⟨ro',OB',oc',h1,h2⟩;exact⟨ro',OB',oc',h1,St.swapA [_,_] [_,_,_,_,_] h2⟩)
    simp only[Exit.inBlock,Exit.then]
    go_at_K
    simp only[List.cons_append,List.nil_append] at hs
    go_upto_region 16 with (fail)
    refine Ch.region' 4 (fun wx=>(Blk wx g4 [.pointer (some ⟨g,0,none⟩)] 83/\Blk wx g6 EV 98)) (fun|3=>true|_=>false) (by kernel_rfl) (by decide +kernel) (⟨hs.drew.hold (.blk g4 83 [.pointer (some ⟨g,0,none⟩)]) (by simp),hs.drew.hold (.blk g6 98 EV) (by simp)⟩) ?_;replace hs:=hs.drew;generalize w.drew=w at hs ⊢;change Ch.CW _ _ _ _ _ [0,1,2,3] _ _
    iterate 2 ((first|refine Ch.pA ?_|refine Ch.pE (hv:=fun wx hS=>Se.xL (hc:=(hS.1.cell _))) (h:=?_));(try simp only[pU]))
    refine Ch.pE (v:=.agg (pc { k:=5#8 } (some ⟨g6,0,none⟩) 16 16 none 0 0).toArray) (hv:=fun wx hS=>Pd.xbd rfl (vs:=[(0,.int .u8 5),(3,.slice (some ⟨g6,0,none⟩) 16 16)]) rfl (bd_entry _ _ _ _)) (h:=?_);(try simp only[pU]);refine Ch.cA (f:=93) (args:=#[.pointer (some ⟨g,0,none⟩),.agg (pc { k:=5#8 } (some ⟨g6,0,none⟩) 16 16 none 0 0).toArray]) (CE.out _ hs) ?_;clear hs;rintro e w⟨ro',OB',oc',rfl,hs⟩;refine⟨_,rfl,⟨hs.hold (.blk g4 83 [.pointer (some ⟨g,0,none⟩)]) (by simp),hs.hold (.blk g6 98 EV) (by simp)⟩,?_⟩;(try simp only[pU]);refine Ch.done ?_
    try simp only[List.drop_succ_cons,List.drop_zero]
    go_wp2_with fail
    have hs:St w0 X ((.blk g11 3 [iv (n:Nat)]::.blk g7 24 [.slice A n c]::.blk g6 98 EV::.blk g5 40 [.int .u16 (n16 id)]::.blk g4 83 [.pointer (some ⟨g,0,none⟩)]::qS g (sendE s1 { h:={ k:=5#8 },en:=en }) { h with OB:=OB',oc:=oc' }::qU ro' (sendE s1 { h:={ k:=5#8 },en:=en }) { h with OB:=OB',oc:=oc' }::mp h.gp .u16 (rPs s0.rp)::R)++(cM ga gb A n c md++(dpc D::[]))) w:=hs
    refine Se.leave1 (Se.St.mid hs) ?_;clear hs;intro w hs;refine Se.leave0 (res1 rfl rfl) ?_
    cases HR4.out
    refine⟨ro',OB',oc',rfl,?_⟩;rw[show(sendE s1 { h:={ k:=5#8 },en:=en }).rp=s0.rp from HRP.out];simp only[List.cons_append] at hs;exact hs.sub (List.Sublist.cons _ (List.Sublist.cons _ (List.Sublist.cons _ (List.Sublist.cons _ (List.Sublist.cons _ (List.Sublist.cons_cons _ (List.Sublist.cons_cons _ (List.Sublist.cons_cons _ (List.sublist_append_left _ _)))))))))
   ·rintro D c' k Lb w h
    exact h.elim
theorem reply_m(N:List At){g:Nat}{s:Ss}{f:Pf}(hs:St w0 X (N++FF g s f L) w)(ok:OkP s f.k)(id:BitVec 16)(en da:Bs)(he:en.length=16){A:Option Addr}{gd od n c:Nat}(hn:n=da.length)(hx:Reads (N++L) A (da.map v8))(hnc:n<=c)(hA:0<n->A=some ⟨gd,od,none⟩)(h1:1<=s.c.md)(h2:s.c.md<=1048576)(hb:s.out.length+2097152*(n+2)<=70368744177664){s':Ss}{e:Nat}(hr:replyE s id en da=(s',e)) :
  Calls Tryz.prog 46 #[.pointer (some ⟨g,0,none⟩),.int .u16 (n16 id),.agg (en.map v8).toArray,.slice A n c] w fun e' w'=>∃ f',e'=.returned (iv e)/\OkP s' f'.k/\St w0 X (N++FF g s' f' L) w':=by
 have HO:=Lib.hid (show s'.tx=s.tx/\s'.rd=s.rd/\s'.r=s.r from by
  have HF:∀ (l:List PDU) (s:Ss),(l.foldl sendE s).tx=s.tx/\(l.foldl sendE s).rd=s.rd/\(l.foldl sendE s).r=s.r:=by
   intro l
   induction l with
   | nil=>intro s;exact⟨rfl,rfl,rfl⟩
   | cons p l ih=>intro s;exact ih (sendE s p)
  unfold replyE at hr
  split at hr
  ·cases hr;exact⟨rfl,rfl,rfl⟩
  ·split at hr
   ·cases hr;exact⟨rfl,rfl,rfl⟩
   ·split at hr
    ·cases hr;exact⟨rfl,rfl,rfl⟩
    ·cases hr;exact HF _ _)
 have hs2:=hs.perm (FF_front N)
 obtain⟨L1,hL1⟩:∃ L1,L1=N++L:=⟨_,rfl⟩
 rw[<-hL1] at hs2 hx
 have h3:St w0 X (qS g s f.k.h::qU f.k.ro s f.k.h::mp f.k.h.gp .u16 (rPs s.rp)::(pR f.k.h.gr s.r f.rB f.rc::pO f.rr f.rB f.rc s.r::mp f.k.h.gt .u16 (tPs f.k.tl)::.own 67 f.k.rq f.k.h.RB s.rd.length f.k.h.rc (rqs f.k.rl)::(tAs f.k.tl++(qAs f.k.rl++L1)))) w :=
  hs2.perm ((List.perm_append_comm_assoc [_,_] [_,_] _).trans (List.Perm.cons _ (List.Perm.cons _ (List.perm_append_comm_assoc [_,_,_] [_] _))))
 refine(reply0_st h3 id en da he hn (((hx.app _).app _).app [_,_,_,_]) hnc hA h1 h2 hb hr).mono ?_;rintro e' w' ⟨ro',OB',oc',h4,h5⟩;refine⟨⟨⟨{ f.k.h with OB:=OB',oc:=oc' },ro',f.k.rq,f.k.tl,f.k.rl⟩,f.rB,f.rc,f.rr⟩,h4,⟨HO.out.1.trans ok.tx,HO.out.2.1.trans ok.rd,ok.en,ok.re⟩,?_⟩
 have h6:=h5.perm ((List.perm_append_comm_assoc [_,_,_] [_,_] _).trans (List.Perm.cons _ (List.Perm.cons _ (List.Perm.cons _ (List.Perm.cons _ (List.Perm.swap _ _ _))))))
 have h7:St w0 X (FF g s' ⟨⟨{ f.k.h with OB:=OB',oc:=oc' },ro',f.k.rq,f.k.tl,f.k.rl⟩,f.rB,f.rc,f.rr⟩ L1) w':=by
  unfold FF SF;rw[HO.out.2.1,HO.out.2.2];exact h6
 rw[hL1] at h7;exact h7.perm (FF_front N).symm
end Sn
end Go.Proofs.YtjnllcnknjlmmaaGreat
namespace Go.Proofs.YtjnllcnknjlmmaaGreat
open Go Go.RowKit
namespace Sn
open Pd (iv)
open Se (St At Reads)
open Su (us u16)
variable {w0 w:World} {X:List Nat} {L:List At}
attribute [local irreducible] Calls
theorem us_get{zs:List Int}{i:Nat}{z:Int}(h:zs[i]? = some z):(us zs)[i]? = some (.int .u16 z):=by unfold us;rw[List.getElem?_map,h];rfl
def isB(a b:Nat)(zs:List Int)(x y:Int)(ids:List Int):Bool:=decide ((a:Int)=x)&&decide ((b:Int)=y)&&decide (zs=ids)
theorem is_st{M:List At}{p:Value}{a b:Nat}{zs:List Int}(hs:St w0 X M w)
  (CS:∀ w,St w0 X M w->Calls Tryz.prog 38 #[p] w fun e' w'=>e'=.returned (.tuple #[iv a,iv b])/\St w0 X M w')
  (CO:∀ w,St w0 X M w->Calls Tryz.prog 42 #[p] w fun e w'=>∃ A r c,e=.returned (.slice A zs.length c)/\St w0 X (.own 1 r A zs.length c (us zs)::M) w')
  (x y:Int) (ids:List Int) {B:Option Addr} {gb ob m c:Nat} (hm:m=ids.length) (hR:Reads M B (us ids)) (hB:0<m->B=some ⟨gb,ob,none⟩) (hz:zs.length<=1048576) :
  Calls Tryz.prog 41 #[p,.int .i64 x,.int .i64 y,.slice B m c] w fun e' w'=>e'=.returned (.bool (isB a b zs x y ids))/\St w0 X M w':=by
 obtain⟨n,hn⟩:∃ n,n=zs.length:=⟨_,rfl⟩
 rw[<-hn] at CO hz
 have HN:=Lib.hid hn
 have HM:=Lib.hid hm
 have HR:=Lib.hid hR
 have HB:=Lib.hid hB
 have CS2:=Lib.hid CS
 have CO2:=Lib.hid CO
 clear CS CO hn hm hR hB
 by_cases h1:(a:Int)=x
 rotate_left
 ·have d1:((a:Int) != x)=true:=by simpa using h1
  have HI:=Lib.hid (show isB a b zs x y ids=false by unfold isB;rw[decide_eq_false h1];rfl)
  clear h1
  go_enter Tryz.func41,Tryz.ntmps41
  go_upto_region 2 with (first|(go_at_call 38;refine Calls.mono (CS2.out _ hs) ?_;clear hs;rintro e w ⟨rfl,hs⟩))
  go_wp2_with (first|(go_at_call 42;refine Calls.mono (CO2.out _ hs) ?_;clear hs;rintro e w ⟨A,r,c',rfl,hs⟩))
  rw[HI.out];go_ret;exact⟨rfl,hs.drop⟩
 by_cases h2:(b:Int)=y
 rotate_left
 ·have d1:((a:Int) != x)=false:=by simpa using h1
  have d2:((b:Int) != y)=true:=by simpa using h2
  have HI:=Lib.hid (show isB a b zs x y ids=false by unfold isB;rw[decide_eq_false h2,Bool.and_false];rfl)
  clear h1 h2
  go_enter Tryz.func41,Tryz.ntmps41
  go_upto_region 2 with (first|(go_at_call 38;refine Calls.mono (CS2.out _ hs) ?_;clear hs;rintro e w ⟨rfl,hs⟩))
  go_wp2_with (first|(go_at_call 42;refine Calls.mono (CO2.out _ hs) ?_;clear hs;rintro e w ⟨A,r,c',rfl,hs⟩))
  rw[HI.out];go_ret;exact⟨rfl,hs.drop⟩
 have d1:((a:Int) != x)=false:=by simpa using h1
 have d2:((b:Int) != y)=false:=by simpa using h2
 have HI:=Lib.hid (show isB a b zs x y ids=decide (zs=ids) by unfold isB;rw[decide_eq_true h1,decide_eq_true h2];rfl)
 clear h1 h2
 by_cases h3:n=m
 rotate_left
 ·have d3:((n:Int) != (m:Int))=true:=by simp;omega
  have HJ:=Lib.hid (show decide (zs=ids)=false from decide_eq_false (fun h=>h3 (by rw[HN.out,HM.out,h])))
  clear h3
  go_enter Tryz.func41,Tryz.ntmps41
  go_upto_region 2 with (first|(go_at_call 38;refine Calls.mono (CS2.out _ hs) ?_;clear hs;rintro e w ⟨rfl,hs⟩))
  go_wp2_with (first|(go_at_call 42;refine Calls.mono (CO2.out _ hs) ?_;clear hs;rintro e w ⟨A,r,c',rfl,hs⟩))
  rw[HI.out,HJ.out];go_ret;exact⟨rfl,hs.drop⟩
 subst h3
 have d3:((n:Int) != (n:Int))=false:=by simp
 go_enter Tryz.func41,Tryz.ntmps41
 go_upto_region 2 with (first|(go_at_call 38;refine Calls.mono (CS2.out _ hs) ?_;clear hs;rintro e w ⟨rfl,hs⟩))
 go_upto_region 3 with (first|(go_at_call 42;refine Calls.mono (CO2.out _ hs) ?_;clear hs;rintro e w ⟨A,r,c',rfl,hs⟩))
 go_wp2_with fail
 go_loopg [12] (n-0) (fun gh s12 wr=>∃ (i:Nat),gh=n-i/\i<=n/\s12=.int .i64 (i:Nat)/\Hid (∀ j,j<i->zs[j]? = ids[j]?)/\St w0 X (.own 1 r A n c' (us zs)::M) wr)
 case atStart=>exact⟨0,rfl,Nat.zero_le _,rfl,Lib.hid (fun j hj=>absurd hj (Nat.not_lt_zero _)),hs⟩
 case round =>
  clear hs
  rename World=>w
  obtain⟨i,rfl,hi,rfl,HE,hs⟩:=hrel
  by_cases hlt:i<n
  ·have hlt':decide ((i:Int)<(n:Int))=true:=by simp;omega
   obtain⟨ga,oa,rfl,rfl⟩:=hs.own_at 0 rfl (by omega)
   obtain rfl:=HB.out (by omega)
   obtain⟨z1,hz1⟩:∃ z,zs[i]? = some z:=⟨_,List.getElem?_eq_getElem (by rw[<-HN.out];exact hlt)⟩
   obtain⟨z2,hz2⟩:∃ z,ids[i]? = some z:=⟨_,List.getElem?_eq_getElem (by rw[<-HM.out];exact hlt)⟩
   have HZ1:=Lib.hid hz1
   have HZ2:=Lib.hid hz2
   have hw:=IntWalk.i64_in ((i:Int)+1) (by omega)
   clear hz1 hz2
   go_upto_region 8 with (fail)
   refine Ch.region' 9 (fun wx=>wx.cell? ⟨ga,oa+i,none⟩=some (.int .u16 z1)/\wx.cell? ⟨gb,ob+i,none⟩=some (.int .u16 z2)) (fun |_=>false) (by kernel_rfl) (by decide +kernel) (⟨(Reads.own 0 rfl).cell i (us_get HZ1.out) _ hs.drew.hold,(HR.out.cons _).cell i (us_get HZ2.out) _ hs.drew.hold⟩) ?_;replace hs:=hs.drew;generalize w.drew=w at hs ⊢;change Ch.CW _ _ _ _ _ [0,1,2,3,4,5,6,7,8] _ _
   iterate 9 ((first|refine Ch.pA ?_|refine Ch.pE (hv:=fun wx hS=>Se.xL (hc:=hS.1)) (h:=?_)|refine Ch.pE (hv:=fun wx hS=>Se.xL (hc:=hS.2)) (h:=?_));(try simp only[pU]))
   refine Ch.done ?_
   try simp only[List.drop_succ_cons,List.drop_zero]
   by_cases he:z1=z2
   ·have d4:(z1 != z2)=false:=by simpa using he
    have HE2:=Lib.hid (show ∀ j,j<i+1->zs[j]? = ids[j]? from fun j hj=>by
     rcases Nat.lt_succ_iff_lt_or_eq.1 hj with h|rfl
     ·exact HE.out j h
     ·rw[HZ1.out,HZ2.out,he])
    clear he
    go_wp2_with fail
    go_roundg (n-(i+1))
    case measure=>omega
    case rel=>exact⟨i+1,rfl,by omega,by go_num,HE2,hs⟩
   ·have d4:(z1 != z2)=true:=by simpa using he
    have HJ:=Lib.hid (show decide (zs=ids)=false from decide_eq_false (fun h=>he (by have h5:=HZ1.out;rw[h,HZ2.out] at h5;exact(Option.some.inj h5).symm)))
    clear he
    go_wp2_with fail
    rw[HI.out,HJ.out];go_ret;exact⟨rfl,hs.drop⟩
  ·have hlt':decide ((i:Int)<(n:Int))=false:=by simp;omega
   have HJ:=Lib.hid (show decide (zs=ids)=true from decide_eq_true (List.ext_getElem? fun j=>by
    by_cases hj:j<i
    ·exact HE.out j hj
    ·rw[List.getElem?_eq_none (by rw[<-HN.out];omega),List.getElem?_eq_none (by rw[<-HM.out];omega)]))
   go_wp2_with fail
   rw[HI.out,HJ.out];go_ret;exact⟨rfl,hs.drop⟩
end Sn
end Go.Proofs.YtjnllcnknjlmmaaGreat
