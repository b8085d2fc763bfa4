/- Layer 41. -/
import Derived.Test.YtjnllcnknjlmmaaGreatKa15
import Derived.Test.YtjnllcnknjlmmaaGreatKa18
set_option linter.unusedSimpArgs false
set_option linter.unusedVariables false
set_option maxRecDepth 100000
set_option maxHeartbeats 4000000
namespace Go.Proofs.YtjnllcnknjlmmaaGreat
open Go Go.RowKit
namespace Sr
open Pd (PDU pc iv)
open Se (St At Reads Cell)
open Li (v8 Rd Blk)
variable {w0 w:World} {X:List Nat} {L:List At} {s s':Rc} {g c:Nat} {B:Option Addr} {r:Option Nat}
attribute [local irreducible] Calls
theorem complete_st(hs:St w0 X L w)(g g3:Nat):Calls Tryz.prog 100 #[.pointer (some ⟨g,0,none⟩),.pointer (some ⟨g3,0,none⟩)] w fun e w'=>∃ b1 b2,e=.returned (.func (.func 138) #[] #[.pointer (some ⟨b1,0,none⟩),.pointer (some ⟨b2,0,none⟩)])/\St w0 X (.blk b1 77 [.pointer (some ⟨g,0,none⟩)]::.blk b2 192 [.pointer (some ⟨g3,0,none⟩)]::L) w':=by
 go_enter Tryz.func100,Tryz.ntmps100
 go_wp2_with (first|((first|with_reducible refine Se.ab hs ?_|with_reducible refine Se.abc hs ?_);clear hs;(first|((fail_if_success (have _q:=b1));generalize w.heap.size=b1;intro w hs)|(generalize w.heap.size=b2;intro w hs))))
 go_ret;exact⟨b1,b2,rfl,hs.perm (List.Perm.swap _ _ _)⟩
theorem zE:(Tryz.prog.info? 30).bind (fun i=>i.zero.map (·.cells.toList))=some [iv 0]:=by kernel_rfl
theorem next_st(hs:St w0 X (pR g s B c::pO r B c s::L) w)(hmo:s.mo≠0)(hl:s.b.length<=4194304)(hnb:s.nb+s.b.length<=70368744177664)(hnp:s.np<=70368744177664){p:PDU}{e:Nat}(hr:nextE s=(s',p,e)) :
  Calls Tryz.prog 61 #[.pointer (some ⟨g,0,none⟩)] w fun e' w'=>∃ r1 EA ec r2 DA dc PC r' B' c',e'=.returned (.tuple #[.agg PC.toArray,iv e])/\Hid (PC=pc p.h EA p.en.length ec DA p.da.length dc)/\St w0 X (.own 1 r1 EA p.en.length ec (p.en.map v8)::.own 1 r2 DA p.da.length dc (p.da.map v8)::pR g s' B' c'::pO r' B' c' s'::L) w':=by
 obtain⟨Z,hZ⟩:∃ Z,Z=pc {} none 0 0 none 0 0:=⟨_,rfl⟩
 have ZL:=Lib.hid (show Z.length=14 by rw[hZ];rfl)
 have ZO:=Lib.hid (show ∀ v∈Z,v.oneCell'=true by rw[hZ];exact Pd.pc_one _ _ _ _ _ _ _)
 have HZ:Hid ((Tryz.prog.info? 65).bind (fun i=>i.zero.map (·.cells.toList))=some Z):=Lib.hid (by rw[hZ];exact zP0)
 have HZE:=Lib.hid hZ
 obtain⟨ee,hee⟩:∃ ee,s.e=ee:=⟨_,rfl⟩
 have CR:Hid (∀ (w:World) (M:List At),St w0 X (M++pR g s B c::pO r B c s::L) w->Calls Tryz.prog 99 #[.pointer (some ⟨g,0,none⟩)] w fun e w'=>e=.returned (iv ee)/\St w0 X (M++pR g s B c::pO r B c s::L) w'):=Lib.hid (fun w M hs=>by
  refine(ready_st (hs.perm List.perm_middle) hmo).mono ?_;rintro e w' ⟨rfl,hs⟩;exact⟨by rw[hee],hs.perm List.perm_middle.symm⟩)
 clear hZ;unfold nextE at hr
 by_cases h0:ee=0
 rotate_left
 ·rw[if_pos (by rw[hee];exact h0),hee] at hr
  cases hr
  have e1:=(int_ne h0).1
  clear hee h0 hmo hl hnb hnp;refine Se.enterM Tryz.func61 rfl ?_;simp only[Tryz.ntmps61,List.size_toArray,List.length_cons,List.length_nil,Nat.reduceAdd,Nat.reduceSub,Array.replicate_succ,Array.replicate_zero,List.push_toArray,List.append_toArray,List.nil_append,List.cons_append]
  go_upto_region 1 with (first|((with_reducible refine Se.iL 2 ?_);(refine Se.Al hs rfl (HZ.out) ?_;clear hs;rintro w g2-hs))|((with_reducible refine Se.iL 3 ?_);(refine Se.Al hs rfl (zE) ?_;clear hs;rintro w g3-hs)))
  refine wp_scope_straight ?_
  go_wp2_with (first|((with_reducible refine Se.iL 10 ?_);(refine Se.Ldw hs rfl rfl (Reads.blk 1 rfl) (by rw[ZL.out];kernel_rfl) ?_))|((with_reducible refine Se.iN ?_);(refine Se.Sow 1 hs rfl rfl rfl rfl (ZO.out) (by rw[ZL.out];kernel_rfl) (by rw[ZL.out]) ?_;clear hs;intro w hs;try simp only[pS] at hs))|((with_reducible refine Se.iN ?_);(refine Se.So 0 hs rfl rfl rfl (by simp) ?_;clear hs;intro w hs;try simp only[pS] at hs))|(go_at_call 99;refine Calls.mono (CR.out _ [_,_] hs) ?_;clear hs;rintro e w ⟨rfl,hs⟩))
  simp only[Exit.noGoto_ret];refine Se.leave0 (v:=.tuple #[.agg Z.toArray,iv e]) ?_ ?_
  ·exact Se.run_results_rc hs rfl rfl (Reads.blk 1 rfl) (by kernel_rfl) (by rw[ZL.out] <;> kernel_rfl) rfl (Cell.blk 0 rfl rfl) (by kernel_rfl)
  exact⟨none,none,0,none,none,0,Z,r,B,c,rfl,HZE,(hs.drop.drop.nil_own 1 none).nil_own 1 none⟩
 subst h0;rw[if_neg (by simpa using hee)] at hr
 obtain⟨⟨p2,n,e2⟩,ht⟩:∃ x,takeE s=x:=⟨_,rfl⟩
 rw[ht] at hr
 have HSeq:=fun b1 b2 g3=>Lib.hid (comp_seq (w0:=w0) (X:=X) (B:=B) (c:=c) (r:=r) (g:=g) b1 b2 g3 0 ht hl hnb hnp)
 have HR:Hid ((e2=9->s'=s/\p={}/\e=9)/\(e2≠9->e2≠0->s'={ s with e:=e2,b:=[] }/\p={}/\e=e2)/\(e2=0->s'=eat s n/\p=p2/\e=0)):=Lib.hid (by
  refine⟨fun h=>?_,fun h h'=>?_,fun h=>?_⟩
  ·subst h;cases hr;exact⟨rfl,rfl,rfl⟩
  ·dsimp only at hr
   rw[if_neg h,if_pos h'] at hr
   cases hr;exact⟨rfl,rfl,rfl⟩
  ·subst h;cases hr;exact⟨rfl,rfl,rfl⟩)
 have HRE:Hid (∀ (a:Nat),((rcl s B c).set 5 (iv a)).set 4 (.slice none 0 0)=rcl { s with e:=a,b:=[] } none 0):=Lib.hid (fun a=>rfl)
 clear hr ht hee hmo hl hnb hnp;refine Se.enterM Tryz.func61 rfl ?_;simp only[Tryz.ntmps61,List.size_toArray,List.length_cons,List.length_nil,Nat.reduceAdd,Nat.reduceSub,Array.replicate_succ,Array.replicate_zero,List.push_toArray,List.append_toArray,List.nil_append,List.cons_append]
 go_upto_region 1 with (first|((with_reducible refine Se.iL 2 ?_);(refine Se.Al hs rfl (HZ.out) ?_;clear hs;rintro w g2-hs))|((with_reducible refine Se.iL 3 ?_);(refine Se.Al hs rfl (zE) ?_;clear hs;rintro w g3-hs)))
 refine wp_scope_straight ?_
 go_wp2_with (first|(go_at_call 99;refine Calls.mono (CR.out _ [_,_] hs) ?_;clear hs;rintro e w ⟨rfl,hs⟩))
 go_step3
 go_wp2_with (first|(go_at_call 100;refine Calls.mono (complete_st hs g g3) ?_;clear hs;rintro e w ⟨b1,b2,rfl,hs⟩))
 have hs2:St w0 X ([.blk g2 65 Z]++(compM b1 b2 g g3 s B c r 0++L)) w:=by
  replace hs:=hs.pull 2 rfl;replace hs:=hs.pull 5 rfl;replace hs:=hs.pull 5 rfl;replace hs:=hs.pull 4 rfl;replace hs:=hs.pull 4 rfl;replace hs:=hs.pull 5 rfl;simp only[List.eraseIdx_cons_succ,List.eraseIdx_cons_zero] at hs;exact hs
 clear hs;refine Se.rangeOne (lb:=#[.pointer (some ⟨b1,0,none⟩),.pointer (some ⟨b2,0,none⟩)]) hs2 rfl (Go.Proofs.enters_of Tryz.func138 (by kernel_rfl) rfl) (HSeq b1 b2 g3).out
  (by rintro x M1 ⟨_,r1,EA,ec,r2,DA,dc,PC,r',B',c',rfl,_,_⟩;rfl)
  (fun cd x M1 L'=>cd=.exit 0/\∃ PC g5,x=#[.agg PC.toArray,iv n]/\L'=[.blk g5 65 PC,.blk g2 65 PC]) ?_ ?_ ?_
 ·rintro l x M1 w T ⟨_,r1,EA,ec,r2,DA,dc,PC,r',B',c',rfl,HPC,_⟩ hs
  have PCL:=Lib.hid (pcl PC HPC.out).1
  have PCO:=Lib.hid (pcl PC HPC.out).2
  simp only[List.cons_append,List.nil_append] at hs;rw[Se.zip2];simp only[List.setIfInBounds_toArray,List.set_cons_zero,List.set_cons_succ]
  repeat (first|refine wpIn_block ?_|refine wpIn_seq ?_)
  refine Se.regI (by repeat (first|exact Se.roundSt_out|exact Se.falsePost_out|refine Se.then_out ?_|refine Se.block_out ?_)) (by rfl) ?_
  go_wp2_with (first|((with_reducible refine Se.iL 5 ?_);(refine Se.Al hs rfl (HZ.out) ?_;clear hs;rintro w g5-hs))|((with_reducible refine Se.iN ?_);(refine Se.Sow 0 hs rfl rfl rfl rfl (PCO.out) (by rw[PCL.out];kernel_rfl) (by rw[PCL.out,ZL.out]) ?_;clear hs;intro w hs;try simp only[pS] at hs)))
  (try simp only[Exit.then])
  refine⟨[.blk g5 65 PC,.blk g2 65 Z],hs,?_⟩;clear hs;clear w T;intro w T hs;simp only[List.cons_append,List.nil_append] at hs
  repeat (first|refine wpIn_block ?_|refine wpIn_seq ?_)
  refine Se.regI (by repeat (first|exact Se.roundSt_out|exact Se.falsePost_out|refine Se.then_out ?_|refine Se.block_out ?_)) (by rfl) ?_
  go_wp2_with (first|((with_reducible refine Se.iL 16 ?_);(refine Se.Ldw hs rfl rfl (Reads.blk 0 rfl) (by rw[PCL.out];kernel_rfl) ?_))|((with_reducible refine Se.iN ?_);(refine Se.Sow 1 hs rfl rfl rfl rfl (PCO.out) (by rw[PCL.out];kernel_rfl) (by rw[PCL.out,ZL.out]) ?_;clear hs;intro w hs;try simp only[pS] at hs)))
  (try simp only[Exit.then])
  refine wpIn_exit ?_;exact⟨_,⟨rfl,PC,g5,rfl,rfl⟩,hs⟩
 ·rintro Dd w hY0 hs
  simp only[compM,pR,pO,List.cons_append,List.nil_append] at hs;simp only[Exit.inBlock,Exit.then]
  go_at_K
  by_cases h9:e2=9
  ·subst h9
   obtain⟨rfl,rfl,rfl⟩:=HR.out.1 rfl
   go_upto_region 9 with (first|((with_reducible refine Se.iL 17 ?_);(refine Se.Ld hs rfl rfl (Cell.blk 5 rfl rfl) ?_))|((with_reducible refine Se.iL 20 ?_);(refine Se.Ld hs rfl rfl (Cell.blk 5 rfl rfl) ?_)))
   refine Ch.region' 4 (fun wx=>Blk wx g2 Z 65/\Blk wx g3 [iv 9] 30) (fun|2=>true|3=>true|_=>false) (by kernel_rfl) (by decide +kernel) (⟨hs.drew.hold (.blk g2 65 Z) (by simp),hs.drew.hold (.blk g3 30 [iv 9]) (by simp)⟩) ?_;replace hs:=hs.drew;generalize w.drew=w at hs ⊢;change Ch.CW _ _ _ _ _ [0,1,2,3] _ _
   iterate 2 ((first|refine Ch.pA ?_|refine Ch.pE (hv:=fun wx hS=>Se.xR (hr:=(Li.Rd.of_blk hS.1)) (hi:=(by rw[ZL.out] <;> kernel_rfl))) (h:=?_)|refine Ch.pE (hv:=fun wx hS=>Se.xL (hc:=(by rw[hS.2.cell];rfl))) (h:=?_));(try simp only[pU]))
   refine Ch.nA (h:=Se.sow 0 (vs:=Z) hs rfl rfl rfl rfl ZO.out (by rw[ZL.out] <;> kernel_rfl) (by rw[ZL.out]) ?_);clear hs;intro w hs;simp only[List.cons_append,List.nil_append,List.set_cons_zero,List.set_cons_succ] at hs;refine⟨⟨hs.hold (.blk g2 65 Z) (by simp),hs.hold (.blk g3 30 [iv 9]) (by simp)⟩,?_⟩;(try simp only[pU]);refine Ch.nA (h:=Se.so 5 (v:=iv 9) hs rfl rfl rfl rfl rfl (by kernel_rfl) (by simp) ?_);clear hs;intro w hs;simp only[List.cons_append,List.nil_append,List.set_cons_zero,List.set_cons_succ] at hs;refine⟨⟨hs.hold (.blk g2 65 Z) (by simp),hs.hold (.blk g3 30 [iv 9]) (by simp)⟩,?_⟩;(try simp only[pU]);refine Ch.done ?_
   try simp only[List.drop_succ_cons,List.drop_zero]
   go_wp2_with fail
   (try simp only[Exit.noGoto_ret])
   refine Se.leave1 (Se.St.mid (Lb:=[_,_,_,_,_,_]) (M:=[]) hs) ?_;clear hs;intro w hs;simp only[List.cons_append,List.nil_append] at hs;refine Se.leave0 (v:=.tuple #[.agg Z.toArray,iv 9]) ?_ ?_
   ·exact Se.run_results_rc hs rfl rfl (Reads.blk 0 rfl) (by kernel_rfl) (by rw[ZL.out] <;> kernel_rfl) rfl (Cell.blk 5 rfl rfl) (by kernel_rfl)
   replace hs:=hs.pull 5 rfl;replace hs:=hs.pull 3 rfl;replace hs:=hs.pull 3 rfl;replace hs:=hs.pull 3 rfl;replace hs:=hs.pull 5 rfl;replace hs:=hs.pull 5 rfl;simp only[List.eraseIdx_cons_succ,List.eraseIdx_cons_zero] at hs
   have h2:=hs.sub (List.Sublist.cons_cons _ (List.Sublist.cons_cons _ (.cons _ (.cons _ (.cons _ (.cons _ (List.Sublist.refl _)))))))
   exact⟨none,none,0,none,none,0,Z,rfl,HZE,_,_,_,(h2.nil_own 1 none).nil_own 1 none⟩
  ·obtain⟨rfl,rfl,rfl⟩:=HR.out.2.1 h9 hY0
   have e1:=(int_ne hY0).1
   have e9:((e:Int) != 9)=true:=by simp;omega
   clear h9 hY0
   go_upto_region 9 with (first|((with_reducible refine Se.iL 17 ?_);(refine Se.Ld hs rfl rfl (Cell.blk 5 rfl rfl) ?_))|((with_reducible refine Se.iL 20 ?_);(refine Se.Ld hs rfl rfl (Cell.blk 5 rfl rfl) ?_))|((with_reducible refine Se.iL 25 ?_);(refine Se.Ld hs rfl rfl (Cell.blk 5 rfl rfl) ?_))|((with_reducible refine Se.iN ?_);(refine Se.So 3 hs rfl rfl rfl (by(try simp only[List.length_set]);exact(show _<8 by decide)) ?_;clear hs;intro w hs;try simp only[pS] at hs)))
   rw[HRE.out] at hs;refine Ch.region' 4 (fun wx=>Blk wx g2 Z 65/\Blk wx g3 [iv e] 30) (fun|2=>true|3=>true|_=>false) (by kernel_rfl) (by decide +kernel) (⟨hs.drew.hold (.blk g2 65 Z) (by simp),hs.drew.hold (.blk g3 30 [iv e]) (by simp)⟩) ?_;replace hs:=hs.drew;generalize w.drew=w at hs ⊢;change Ch.CW _ _ _ _ _ [0,1,2,3] _ _
   iterate 2 ((first|refine Ch.pA ?_|refine Ch.pE (hv:=fun wx hS=>Se.xR (hr:=(Li.Rd.of_blk hS.1)) (hi:=(by rw[ZL.out] <;> kernel_rfl))) (h:=?_)|refine Ch.pE (hv:=fun wx hS=>Se.xL (hc:=(by rw[hS.2.cell];rfl))) (h:=?_));(try simp only[pU]))
   refine Ch.nA (h:=Se.sow 0 (vs:=Z) hs rfl rfl rfl rfl ZO.out (by rw[ZL.out] <;> kernel_rfl) (by rw[ZL.out]) ?_);clear hs;intro w hs;simp only[List.cons_append,List.nil_append,List.set_cons_zero,List.set_cons_succ] at hs;refine⟨⟨hs.hold (.blk g2 65 Z) (by simp),hs.hold (.blk g3 30 [iv e]) (by simp)⟩,?_⟩;(try simp only[pU]);refine Ch.nA (h:=Se.so 5 (v:=iv e) hs rfl rfl rfl rfl rfl (by kernel_rfl) (by simp) ?_);clear hs;intro w hs;simp only[List.cons_append,List.nil_append,List.set_cons_zero,List.set_cons_succ] at hs;refine⟨⟨hs.hold (.blk g2 65 Z) (by simp),hs.hold (.blk g3 30 [iv e]) (by simp)⟩,?_⟩;(try simp only[pU]);refine Ch.done ?_
   try simp only[List.drop_succ_cons,List.drop_zero]
   go_wp2_with fail
   (try simp only[Exit.noGoto_ret])
   refine Se.leave1 (Se.St.mid (Lb:=[_,_,_,_,_,_]) (M:=[]) hs) ?_;clear hs;intro w hs;simp only[List.cons_append,List.nil_append] at hs;refine Se.leave0 (v:=.tuple #[.agg Z.toArray,iv e]) ?_ ?_
   ·exact Se.run_results_rc hs rfl rfl (Reads.blk 0 rfl) (by kernel_rfl) (by rw[ZL.out] <;> kernel_rfl) rfl (Cell.blk 5 rfl rfl) (by kernel_rfl)
   replace hs:=hs.pull 5 rfl;replace hs:=hs.pull 3 rfl;replace hs:=hs.pull 3 rfl;replace hs:=hs.pull 3 rfl;replace hs:=hs.pull 5 rfl;replace hs:=hs.pull 5 rfl;simp only[List.eraseIdx_cons_succ,List.eraseIdx_cons_zero] at hs
   have h2:=(hs.pull 1 rfl).drop
   have h3:=(hs.sub (List.Sublist.cons_cons _ (.cons _ (.cons _ (.cons _ (.cons _ (.cons _ (List.Sublist.refl _)))))))).perm (List.Perm.refl _)
   exact⟨none,none,0,none,none,0,Z,rfl,HZE,none,none,0,(((h3.nil_own 1 none).u11).nil_own 1 none).nil_own 1 none⟩
 ·rintro Dd cd x M1 L' w ⟨rfl,r1,EA,ec,r2,DA,dc,PC,r',B',c',hx,HPC,rfl⟩ ⟨rfl,PC2,g5,hx2,rfl⟩ hs
  obtain rfl:PC=PC2:=by
   rw[hx] at hx2;simpa using hx2
  have PCL:=Lib.hid (pcl PC HPC.out).1
  have PCO:=Lib.hid (pcl PC HPC.out).2
  obtain⟨rfl,rfl,rfl⟩:=HR.out.2.2 rfl
  simp only[compM,pR,pO,List.cons_append,List.nil_append] at hs;clear hx hx2
  go_upto_region 9 with (first|((with_reducible refine Se.iL 17 ?_);(refine Se.Ld hs rfl rfl (Cell.blk 8 rfl rfl) ?_)))
  refine Ch.region' 4 (fun wx=>Blk wx g2 PC 65/\Blk wx g3 [iv 0] 30) (fun|2=>true|3=>true|_=>false) (by kernel_rfl) (by decide +kernel) (⟨hs.drew.hold (.blk g2 65 PC) (by simp),hs.drew.hold (.blk g3 30 [iv 0]) (by simp)⟩) ?_;replace hs:=hs.drew;generalize w.drew=w at hs ⊢;change Ch.CW _ _ _ _ _ [0,1,2,3] _ _
  iterate 2 ((first|refine Ch.pA ?_|refine Ch.pE (hv:=fun wx hS=>Se.xR (hr:=(Li.Rd.of_blk hS.1)) (hi:=(by rw[PCL.out] <;> kernel_rfl))) (h:=?_)|refine Ch.pE (hv:=fun wx hS=>Se.xL (hc:=(by rw[hS.2.cell];rfl))) (h:=?_));(try simp only[pU]))
  refine Ch.nA (h:=Se.sow 1 (vs:=PC) hs rfl rfl rfl rfl PCO.out (by rw[PCL.out] <;> kernel_rfl) (by rw[PCL.out]) ?_);clear hs;intro w hs;simp only[List.cons_append,List.nil_append,List.set_cons_zero,List.set_cons_succ] at hs;refine⟨⟨hs.hold (.blk g2 65 PC) (by simp),hs.hold (.blk g3 30 [iv 0]) (by simp)⟩,?_⟩;(try simp only[pU]);refine Ch.nA (h:=Se.so 8 (v:=iv 0) hs rfl rfl rfl rfl rfl (by kernel_rfl) (by simp) ?_);clear hs;intro w hs;simp only[List.cons_append,List.nil_append,List.set_cons_zero,List.set_cons_succ] at hs;refine⟨⟨hs.hold (.blk g2 65 PC) (by simp),hs.hold (.blk g3 30 [iv 0]) (by simp)⟩,?_⟩;(try simp only[pU]);refine Ch.done ?_
  try simp only[List.drop_succ_cons,List.drop_zero]
  go_wp2_with fail
  (try simp only[Exit.noGoto_ret])
  refine Se.leave1 (Se.St.mid (Lb:=[_,_,_,_,_,_,_,_,_]) (M:=[]) hs) ?_;clear hs;intro w hs;simp only[List.cons_append,List.nil_append] at hs;refine Se.leave0 (v:=.tuple #[.agg PC.toArray,iv 0]) ?_ ?_
  ·exact Se.run_results_rc hs rfl rfl (Reads.blk 1 rfl) (by kernel_rfl) (by rw[PCL.out] <;> kernel_rfl) rfl (Cell.blk 8 rfl rfl) (by kernel_rfl)
  replace hs:=hs.pull 8 rfl;replace hs:=hs.pull 6 rfl;replace hs:=hs.pull 6 rfl;replace hs:=hs.pull 4 rfl;replace hs:=hs.pull 4 rfl;replace hs:=hs.pull 8 rfl;replace hs:=hs.pull 8 rfl;replace hs:=hs.pull 8 rfl;replace hs:=hs.pull 8 rfl;simp only[List.eraseIdx_cons_succ,List.eraseIdx_cons_zero] at hs
  have h2:=hs.sub (List.Sublist.cons_cons _ (List.Sublist.cons_cons _ (List.Sublist.cons_cons _ (List.Sublist.cons_cons _ (.cons _ (.cons _ (.cons _ (.cons _ (.cons _ (List.Sublist.refl _))))))))))
  exact⟨r1,EA,ec,r2,DA,dc,PC,r',B',c',rfl,HPC,h2⟩
end Sr
end Go.Proofs.YtjnllcnknjlmmaaGreat
namespace Go.Proofs.YtjnllcnknjlmmaaGreat
open Go Go.RowKit
namespace Sr
open Pd (Fm iv fv)
open Se (St At)
variable {w0 w:World} {X:List Nat} {L:List At} {s s':Rc} {g c:Nat} {B:Option Addr} {r:Option Nat}
attribute [local irreducible] Calls
theorem new_yes(hs:St w0 X L w)(f:Fm)(m:Nat)(h:fits f (m:Int)=true):Calls Tryz.prog 56 #[fv f,.int .i64 (m:Int)] w fun e w'=>∃ g,e=.returned (.tuple #[.pointer (some ⟨g,0,none⟩),iv 0])/\St w0 X (pR g { f:=f,mo:=m } none 0::pO none none 0 { f:=f,mo:=m }::L) w':=by
 refine(new_st hs f (m:Int)).mono ?_;rintro e w' (⟨h1,_,_⟩|⟨_,g,m',h2,h3,h4⟩)
 ·rw[h] at h1;cases h1
 ·obtain rfl:m=m':=by omega
  exact⟨g,h3,h4⟩
end Sr
end Go.Proofs.YtjnllcnknjlmmaaGreat
namespace Go.Proofs.YtjnllcnknjlmmaaGreat
open Go Go.RowKit
namespace Sn
open Pd (Fm PDU encE enc dec meas valid framed)
open Sr (Rc nextE takeE addE refE)
theorem most_le(k:Nat):Pd.most k<=1048576:=by unfold Pd.most;split <;> omega
theorem encE_le(p:PDU)(f:Fm):(encE p f).1.length<=2097152:=by
 unfold encE
 by_cases h1:framed f=true
 ·by_cases h2:Pd.valid p=true
  ·rw[if_pos h1,if_pos h2]
   show(Pd.enc p f).length<=_
   rw[Pd.enc_len p f h1 h2]
   have a1:=Pd.hdr_le p.h.k.toNat
   have a2:=Pd.hsum_le p.h.k.toNat f
   have a3:=Pd.dsum_le p.h.k.toNat f (decide (0<p.da.length))
   have a4:=Pd.start_le p.h.k.toNat h1
   have a5:=most_le p.h.k.toNat
   have a6:p.da.length<=Pd.most p.h.k.toNat:=by
    unfold Pd.valid at h2;simp only[Bool.and_eq_true,decide_eq_true_eq] at h2;exact h2.1.1.2
   unfold Pd.size Pd.hs Pd.ds
   split <;> omega
  ·rw[if_pos h1,if_neg h2];exact Nat.zero_le _
 ·rw[if_neg h1];exact Nat.zero_le _
theorem of_ite{c:Prop}[Decidable c]{e:Nat}{y:PDU × Nat}{p:PDU}(h:(if c then (({}:PDU),e) else y)=(p,0))(he:c->e≠0):¬ c/\y=(p,0):=by
 by_cases hc:c
 ·rw[if_pos hc] at h
  simp only[Prod.mk.injEq] at h;exact absurd h.2 (he hc)
 ·rw[if_neg hc] at h
  exact⟨hc,h⟩
theorem dec_valid{b:Bs}{f:Fm}{p:PDU}(h:dec b f=(p,0)):valid p=true:=by
 unfold dec at h
 obtain⟨-,h⟩:=of_ite h id
 obtain⟨-,h⟩:=of_ite h (fun _=>by decide)
 obtain⟨-,h⟩:=of_ite h (fun _=>by decide)
 obtain⟨-,h⟩:=of_ite h (fun _=>by decide)
 obtain⟨h5,h⟩:=of_ite h (fun _=>by decide)
 obtain⟨-,h⟩:=of_ite h (fun _=>by decide)
 simp only[Prod.mk.injEq,and_true] at h;rw[<-h];simp only[not_or,Bool.not_eq_false] at h5;exact h5.2.2
theorem meas_pos{b:Bs}{f:Fm}(h:(meas b f).2=0):1<=(meas b f).1:=by
 unfold meas at h ⊢;simp only at h ⊢
 by_cases h1:framed f=false
 ·rw[if_pos h1] at h;cases h
 rw[if_neg h1] at h ⊢
 split at h
 ·cases h
 ·rename_i h2
  rw[if_neg h2]
  split at h
  ·cases h
  ·rename_i h3
   rw[if_neg h3]
   split at h
   ·cases h
   ·rename_i h4
    rw[if_neg h4]
    split at h
    ·cases h
    ·rename_i h5
     rw[if_neg h5]
     split at h
     ·cases h
     ·rename_i h6
      rw[if_neg h6];simp only[not_or,not_and,Nat.not_lt] at h6
      have h7:=h6.2.1
      have h8:=h6.2.2
      have h9:0<Pd.hdr (b.getD 0 0#8).toNat:=by omega
      show 1<=Pd.bigL (Pd.sub b 4 8)
      by_cases h10:(b.getD 3 0#8).toNat=0
      ·have:=h7 h10
       omega
      ·have:=(h8 (by omega)).1
       omega
structure NextOk (s s':Rc) (p:PDU):Prop where
 v:valid p=true
 b:s'.b.length+1<=s.b.length
 nb:s'.nb+s'.b.length=s.nb+s.b.length
 np:s'.np=s.np+1
 mo:s'.mo=s.mo
 e:s'.e=s.e
 f:s'.f=s.f
theorem next_ok{s s':Rc}{p:PDU}(h:nextE s=(s',p,0)):NextOk s s' p:=by
 unfold nextE at h
 by_cases h0:s.e≠0
 ·rw[if_pos h0] at h
  simp only[Prod.mk.injEq] at h;exact absurd h.2.2 h0
 rw[if_neg h0] at h
 by_cases h1:(takeE s).2.2=9
 ·rw[if_pos h1] at h
  simp only[Prod.mk.injEq] at h;omega
 rw[if_neg h1] at h
 by_cases h2:(takeE s).2.2≠0
 ·rw[if_pos h2] at h
  simp only[Prod.mk.injEq] at h;exact absurd h.2.2 h2
 rw[if_neg h2] at h;simp only[Prod.mk.injEq,and_true] at h
 obtain⟨hs,hp⟩:=h
 have h3:(takeE s).2.2=0:=by omega
 unfold takeE at h3 hp hs
 by_cases a1:s.b.length<8
 ·rw[if_pos a1] at h3;cases h3
 rw[if_neg a1] at h3 hp hs
 by_cases a2:(meas s.b s.f).2≠0
 ·rw[if_pos a2] at h3;exact absurd h3 a2
 rw[if_neg a2] at h3 hp hs
 by_cases a3:s.mo<(meas s.b s.f).1
 ·rw[if_pos a3] at h3;cases h3
 rw[if_neg a3] at h3 hp hs
 by_cases a4:s.b.length<(meas s.b s.f).1
 ·rw[if_pos a4] at h3;cases h3
 rw[if_neg a4] at h3 hp hs
 have hm:=meas_pos (show(meas s.b s.f).2=0 by omega)
 have hv:valid p=true:=by
  rw[<-hp];exact dec_valid (f:=s.f) (b:=s.b.take (meas s.b s.f).1) (by rw[<-h3])
 subst hs;refine⟨hv,?_,?_,rfl,rfl,rfl,rfl⟩
 ·show(s.b.drop (meas s.b s.f).1).length+1<=_
  rw[List.length_drop];omega
 ·show s.nb+(meas s.b s.f).1+(s.b.drop (meas s.b s.f).1).length=_
  rw[List.length_drop];omega
theorem valid_en{p:PDU}(h:valid p=true)(hk:p.h.k=4#8):p.en.length=64:=by
 unfold valid at h;simp only[Bool.and_eq_true] at h
 have h2:=h.2
 unfold Pd.own at h2;rw[hk] at h2;simpa using h2
theorem valid_da{p:PDU}(h:valid p=true):p.da.length<=1048576:=by
 unfold valid at h;simp only[Bool.and_eq_true,decide_eq_true_eq] at h;exact Nat.le_trans h.1.1.2 (most_le _)
theorem send_out(s:Ss)(p:PDU):(sendE s p).out.length<=s.out.length+2097152:=by
 unfold sendE;rw[List.length_append];exact Nat.add_le_add_left (encE_le p s.f) _
theorem next_err{s s':Rc}{p:PDU}{e:Nat}(h:nextE s=(s',p,e)):s'.b.length<=s.b.length/\s'.mo=s.mo/\s'.nb+s'.b.length<=s.nb+s.b.length/\s'.np+s'.b.length<=s.np+s.b.length:=by
 by_cases he:e=0
 ·subst he
  have hk:=next_ok h
  have h1:=hk.b
  have h2:=hk.nb
  have h3:=hk.np
  exact⟨by omega,hk.mo,by omega,by omega⟩
 ·unfold nextE at h
  repeat' split at h
  all_goals (simp only[Prod.mk.injEq] at h;obtain⟨rfl,-,h2⟩:=h;first|exact absurd h2.symm he|exact⟨Nat.le_refl _,rfl,Nat.le_refl _,Nat.le_refl _⟩|exact⟨Nat.zero_le _,rfl,Nat.le_add_right _ _,Nat.le_add_right _ _⟩)
structure Inv (s:Ss):Prop where
 c:s.c.ok
 mo:s.r.mo≠0
 b:s.r.b.length<=4194304
 t:∀ x∈s.tx,x.2.da.length<=x.2.ln/\x.2.ln<=1048576/\x.2.nd<=x.2.ln
 n:s.tx.length+s.rp.length<=256
 nd:(s.tx.map (·.1)).Nodup
theorem del_nodup{α:Type}{l:List (BitVec 16 × α)}(k:BitVec 16)(h:(l.map (·.1)).Nodup):((delA l k).map (·.1)).Nodup:=h.sublist ((List.filter_sublist).map _)
theorem put_nodup{α:Type}{l:List (BitVec 16 × α)}(k:BitVec 16)(v:α)(h:(l.map (·.1)).Nodup):((putA l k v).map (·.1)).Nodup:=by
 refine(((perm_put v h).map (·.1)).nodup_iff).2 ?_;rw[List.map_cons,List.nodup_cons];refine⟨fun hm=>?_,del_nodup k h⟩
 obtain⟨p,hp,e⟩:=List.mem_map.1 hm
 have:=(List.mem_filter.1 hp).2
 simp[e] at this
theorem put_len{α:Type}(l:List (BitVec 16 × α))(k:BitVec 16)(v:α):(putA l k v).length<=l.length+1/\((getA l k).isSome=true->(putA l k v).length=l.length):=by
 unfold putA
 split
 ·rw[List.length_map];exact⟨Nat.le_succ _,fun _=>rfl⟩
 ·rename_i h
  rw[List.length_append];refine⟨Nat.le_refl _,fun h2=>?_⟩
  exfalso
  apply h
  cases h3:getA l k with
  | none=>rw[h3] at h2;cases h2
  | some v=>exact List.any_eq_true.2 ⟨_,getA_some h3,by simp⟩
theorem put_mem{α:Type}{l:List (BitVec 16 × α)}{k:BitVec 16}{v:α}{x:BitVec 16 × α}(h:x∈putA l k v):x=(k,v)\/x∈l:=by
 unfold putA at h
 split at h
 ·obtain⟨y,hy,rfl⟩:=List.mem_map.1 h
  split
  ·exact .inl rfl
  ·exact .inr hy
 ·rcases List.mem_append.1 h with h|h
  ·exact .inr h
  ·exact .inl (List.mem_singleton.1 h)
structure Step1 (s s':Ss):Prop where
 i:Inv s'
 b:s'.r.b=s.r.b
 nb:s'.r.nb=s.r.nb
 np:s'.r.np=s.r.np
 out:s'.out.length<=s.out.length+2097152
 rd:s'.rd.length<=s.rd.length+1
theorem inv_over{s:Ss}(h:Inv s)(re:Nat):Inv (overE s re):=⟨h.c,h.mo,h.b,fun x hx=>absurd hx List.not_mem_nil,Nat.zero_le _,List.nodup_nil⟩
theorem inv_send{s:Ss}(h:Inv s)(p:PDU):Inv (sendE s p):=⟨h.c,h.mo,h.b,h.t,h.n,h.nd⟩
theorem step_over{s:Ss}(h:Inv s)(re:Nat):Step1 s (overE s re):=⟨inv_over h re,rfl,rfl,rfl,Nat.le_add_right _ _,Nat.le_succ _⟩
theorem step_end{s:Ss}(h:Inv s)(re:Nat):Step1 s (endE s re):=⟨inv_over (inv_send h _) re,rfl,rfl,rfl,send_out s _,Nat.le_succ _⟩
theorem ref_keeps(r:Rc)(f:Fm):(refE r f).1.b=r.b/\(refE r f).1.nb=r.nb/\(refE r f).1.np=r.np/\(refE r f).1.mo=r.mo:=by
 unfold refE
 split
 ·exact⟨rfl,rfl,rfl,rfl⟩
 ·split <;> exact⟨rfl,rfl,rfl,rfl⟩
theorem step_open{s:Ss}(h:Inv s)(p:PDU):Step1 s (openE s p):=by
 obtain⟨h1,h2,h3,h4⟩:=ref_keeps s.r (fmE (digE s.c p.h.dg) s.c.al)
 refine⟨⟨h.c,?_,?_,h.t,h.n,h.nd⟩,h1,h2,h3,send_out s _,Nat.le_succ _⟩
 ·show(refE s.r _).1.mo≠0
  rw[h4];exact h.mo
 ·show(refE s.r _).1.b.length<=_
  rw[h1];exact h.b
theorem step_ask{s:Ss}(h:Inv s)(id:BitVec 16)(t:Tx)(ht:t.da.length<=t.ln/\t.ln<=1048576)(hn:(putA s.tx id { t with nd:=min (t.da.length+s.c.tr) t.ln }).length+s.rp.length<=256):Step1 s (askE s id t):=by
 refine⟨⟨h.c,h.mo,h.b,?_,hn,put_nodup _ _ h.nd⟩,rfl,rfl,rfl,send_out { s with tx:=_ } _,Nat.le_succ _⟩;intro x hx
 rcases put_mem hx with rfl|hx
 ·exact⟨ht.1,ht.2,Nat.min_le_right _ _⟩
 ·exact h.t x hx
theorem step_request{s:Ss}(h:Inv s)(id:BitVec 16)(b da:Bs)(rp:Nat)(hn:s.tx.length+(putA s.rp id rp).length<=256):Step1 s (requestE s id b da rp):=by
 refine⟨⟨h.c,h.mo,h.b,h.t,hn,h.nd⟩,rfl,rfl,rfl,Nat.le_add_right _ _,?_⟩
 show(s.rd++[_]).length<=_
 rw[List.length_append];exact Nat.le_refl _
theorem len_le(c:Cf)(b:Bs)(d:Nat)(h:(descE c b d).2=true):lenE b<=1048576:=by
 unfold descE at h
 split at h
 ·cases h
 ·rename_i h1
  simp only[Bool.or_eq_true,not_or,decide_eq_true_eq] at h1;omega
theorem step_command{s:Ss}(h:Inv s)(p:PDU):Step1 s (commandE s p):=by
 unfold commandE
 split
 ·exact step_end h 2
 ·split
  ·exact step_end h 5
  ·rename_i h2
   have ho:=h.c.os
   split
   ·exact step_end h 4
   ·rename_i h3
    have hl:=len_le s.c p.en p.da.length (by simpa using h3)
    split
    ·refine step_ask h _ _ ⟨Nat.zero_le _,hl⟩ ?_
     have:=(put_len s.tx (idE p.en) ({ en:=p.en,tg:=tagE s.tx (s.tx.length+1) 0#16,ln:=lenE p.en,da:=[],nd:=min (([]:Bs).length+s.c.tr) (lenE p.en) }:Tx)).1
     exact Nat.le_trans (Nat.add_le_add_right this _) (by omega)
    ·have:=fun v=>(put_len s.rp (idE p.en) v).1
     split
     ·exact step_request h _ _ _ _ (by have:=this (lenE p.en);omega)
     ·exact step_request h _ _ _ _ (by have:=this 0;omega)
theorem step_data{s:Ss}(h:Inv s)(p:PDU):Step1 s (dataE s p):=by
 have hn:=h.nd
 unfold dataE
 cases hg:getA s.tx p.h.id with
 | none=>exact step_end h 2
 | some t =>
  simp only
  split
  ·exact step_end h 2
  ·split
   ·exact step_end h 4
   ·rename_i h3
    simp only[not_or,Nat.not_lt] at h3
    obtain⟨-,-,h4,-⟩:=h3
    have ht:=h.t _ (getA_some hg)
    have hsome:(getA s.tx p.h.id).isSome=true:=by rw[hg];rfl
    have hput:=fun v=>(put_len s.tx p.h.id v).2 hsome
    have hmem:∀ x∈putA s.tx p.h.id { t with da:=t.da++p.da },x.2.da.length<=x.2.ln/\x.2.ln<=1048576/\x.2.nd<=x.2.ln:=by
     intro x hx
     rcases put_mem hx with rfl|hx
     ·refine⟨?_,ht.2.1,ht.2.2⟩
      show(t.da++p.da).length<=t.ln
      rw[List.length_append]
      have:=ht.2.2
      simp only at this;omega
     ·exact h.t x hx
    have hn0:=h.n
    split
    ·have hd:(delA (putA s.tx p.h.id { t with da:=t.da++p.da }) p.h.id).length+1<=s.tx.length:=by
      rw[del_put]
      have:=(perm_del hn hg).length_eq
      rw[this];exact Nat.le_refl _
     have hs1:Inv { s with tx:=delA (putA s.tx p.h.id { t with da:=t.da++p.da }) p.h.id }:=⟨h.c,h.mo,h.b,fun x hx=>hmem x (List.mem_filter.1 hx).1,by show(delA (putA s.tx p.h.id { t with da:=t.da++p.da }) p.h.id).length+s.rp.length<=256;omega,del_nodup _ (put_nodup _ _ hn)⟩
     have h5:=step_request hs1 p.h.id t.en (t.da++p.da) 0 (by
      show(delA (putA s.tx p.h.id { t with da:=t.da++p.da }) p.h.id).length+(putA s.rp p.h.id 0).length<=256
      have:=(put_len s.rp p.h.id 0).1
      omega)
     exact⟨h5.i,h5.b,h5.nb,h5.np,h5.out,h5.rd⟩
    ·have hs2:Inv { s with tx:=putA s.tx p.h.id { t with da:=t.da++p.da } }:=⟨h.c,h.mo,h.b,hmem,by show(putA s.tx p.h.id _).length+s.rp.length<=256;rw[hput];exact hn0,put_nodup _ _ hn⟩
     split
     ·have h6:=step_ask hs2 p.h.id { t with da:=t.da++p.da } ⟨(hmem _ (getA_some (get_put _ _ _))).1,(hmem _ (getA_some (get_put _ _ _))).2.1⟩ (by
       show(putA (putA s.tx p.h.id _) p.h.id _).length+s.rp.length<=256
       rw[(put_len (putA s.tx p.h.id _) p.h.id _).2 (by rw[get_put];rfl),hput];exact hn0)
      exact⟨h6.i,h6.b,h6.nb,h6.np,h6.out,h6.rd⟩
     ·exact⟨hs2,rfl,rfl,rfl,Nat.le_add_right _ _,Nat.le_succ _⟩
theorem step_handle{s:Ss}(h:Inv s)(p:PDU):Step1 s (handleE s p):=by
 unfold handleE
 repeat' split
 ·exact step_open h p
 ·exact step_command h p
 ·exact step_data h p
 ·exact step_over h 6
 ·exact step_end h 2
theorem inv_r{s:Ss}(h:Inv s){r:Rc}(hb:r.b.length<=4194304)(hm:r.mo≠0):Inv { s with r:=r }:=⟨h.c,hm,hb,h.t,h.n,h.nd⟩
theorem feedN_end{n:Nat}{s:Ss}(h:s.st=3):feedN n s=s:=by
 cases n with
 | zero=>rfl
 | succ n=>unfold feedN;rw[if_pos h]
theorem add_b{r r':Rc}{x:Bs}{e:Nat}(h:addE r x=(r',e)):(e=0->r'.b=r.b++x/\r'.b.length<=4194304)/\(e≠0->r'=r)/\r'.mo=r.mo/\r'.nb=r.nb/\r'.np=r.np:=by
 unfold addE at h
 split at h
 ·rename_i h0
  cases h
  exact⟨fun h=>absurd h h0,fun _=>rfl,rfl,rfl,rfl⟩
 ·split at h
  ·cases h
   exact⟨fun h=>absurd h (by decide),fun _=>rfl,rfl,rfl,rfl⟩
  ·rename_i h2
   cases h
   exact⟨fun _=>⟨rfl,by rw[List.length_append];omega⟩,fun h=>absurd rfl h,rfl,rfl,rfl⟩
end Sn
end Go.Proofs.YtjnllcnknjlmmaaGreat
namespace Go.Proofs.YtjnllcnknjlmmaaGreat
open Go Go.RowKit
namespace Sn
open Pd (PDU pc iv)
open Sr (Rc pR pO)
open Se (St At kmp getK)
open Li (v8)
variable {w0 w:World} {X:List Nat} {L:List At}
attribute [local irreducible] Calls
structure Pf where
 k:Pl
 rB:Option Addr
 rc:Nat
 rr:Option Nat
def FF(g:Nat)(s:Ss)(f:Pf)(L:List At):List At:=pR f.k.h.gr s.r f.rB f.rc::pO f.rr f.rB f.rc s.r::SF g s f.k L
def FinR(w0:World)(X:List Nat)(g:Nat)(s:Ss)(gr:Nat)(L:List At)(w:World):Prop:=∃ f,OkP s f.k/\f.k.h.gr=gr/\St w0 X (FF g s f L) w
theorem insM_SF(M:List At){g:Nat}{s:Ss}{k:Pl}:(M++SF g s k L).Perm (SF g s k (M++L)) :=
 (List.perm_append_comm_assoc M [_,_,_,_,_] _).trans (List.Perm.cons _ (List.Perm.cons _ (List.Perm.cons _ (List.Perm.cons _ (List.Perm.cons _ ((List.perm_append_comm_assoc M (tAs k.tl) _).trans (List.Perm.append_left _ (List.perm_append_comm_assoc M (qAs k.rl) _))))))))
theorem finR{g:Nat}{s:Ss}{f:Pf}{N:List At}{w:World}{r:Rc}(h:Fin w0 X g s f.k.h.gr (N++(pR f.k.h.gr r f.rB f.rc::pO f.rr f.rB f.rc r::L)) w)(hr:s.r=r):FinR w0 X g s f.k.h.gr L w:=by
 obtain⟨k',h1,h2,h3⟩:=h.sub (List.sublist_append_right N _)
 refine⟨⟨k',f.rB,f.rc,f.rr⟩,h1,h2,?_⟩;unfold FF;rw[hr,h2];exact h3.perm (insM_SF [_,_]).symm
theorem toSF{g:Nat}{s:Ss}{f:Pf}(N:List At){a b:At}(hs:St w0 X (N++(a::b::FF g s f L)) w):St w0 X (SF g s f.k (a::b::(N++(pR f.k.h.gr s.r f.rB f.rc::pO f.rr f.rB f.rc s.r::L)))) w:=by
 refine hs.perm ?_;refine(List.perm_append_comm_assoc N [_,_] _).trans ?_;refine List.Perm.trans (l₂:=([a,b]++(N++[pR f.k.h.gr s.r f.rB f.rc,pO f.rr f.rB f.rc s.r]))++SF g s f.k L) ?_ ?_
 ·simp[FF]
 ·refine(insM_SF _).trans (SF_perm ?_)
  simp
theorem command_r(s:Ss)(p:PDU):(commandE s p).r=s.r:=by
 unfold commandE
 repeat' split
 all_goals rfl
theorem data_r(s:Ss)(p:PDU):(dataE s p).r=s.r:=by
 unfold dataE
 cases getA s.tx p.h.id with
 | none=>rfl
 | some t =>
  simp only
  repeat' split
  all_goals rfl
theorem endR(N:List At){g:Nat}{s:Ss}{f:Pf}(hs:St w0 X (N++FF g s f L) w)(ok:OkP s f.k)(re:Nat)(hb:(endE s re).out.length<=70368744177664) :
  Calls Tryz.prog 89 #[.pointer (some ⟨g,0,none⟩),iv re] w fun e w'=>e=.returned (.tuple #[])/\FinR w0 X g (endE s re) f.k.h.gr L w':=by
 have h1:=hs.perm (L':=SF g s f.k (N++(pR f.k.h.gr s.r f.rB f.rc::pO f.rr f.rB f.rc s.r::L))) (by
  refine List.Perm.trans (l₂:=(N++[pR f.k.h.gr s.r f.rB f.rc,pO f.rr f.rB f.rc s.r])++SF g s f.k L) ?_ ?_
  ·simp[FF]
  ·refine(insM_SF _).trans (SF_perm ?_)
   simp)
 refine(endF [] h1 ok re hb).mono ?_;rintro e w' ⟨h2,h3⟩;exact⟨h2,finR h3 rfl⟩
variable {EA DA:Option Addr} {r1 r2:Option Nat} {ec dc:Nat}
abbrev eP(p:PDU)(EA:Option Addr)(r1:Option Nat)(ec:Nat):At:=.own 1 r1 EA p.en.length ec (p.en.map v8)
abbrev dP(p:PDU)(DA:Option Addr)(r2:Option Nat)(dc:Nat):At:=.own 1 r2 DA p.da.length dc (p.da.map v8)
theorem commandR(N:List At){g:Nat}{s:Ss}{f:Pf}(p:PDU)(hs:St w0 X (N++(eP p EA r1 ec::dP p DA r2 dc::FF g s f L)) w)(ok:OkP s f.k)(hi:Inv s)(he:p.en.length=64)(hd:p.da.length<=4194304)(hrd:s.rd.length<=8388608)(hb:(commandE s p).out.length<=70368744177664) :
  Calls Tryz.prog 119 #[.pointer (some ⟨g,0,none⟩),.agg (pc p.h EA p.en.length ec DA p.da.length dc).toArray] w fun e w'=>e=.returned (.tuple #[])/\FinR w0 X g (commandE s p) f.k.h.gr L w':=by
 refine(command_st p (toSF N hs) ok he hd hi.c.tr (by have:=hi.n;omega) (by have:=hi.n;omega) hrd hb).mono ?_;rintro e w' ⟨h1,h2⟩;exact⟨h1,finR h2 (command_r s p)⟩
theorem dataR(N:List At){g:Nat}{s:Ss}{f:Pf}(p:PDU)(hs:St w0 X (N++(eP p EA r1 ec::dP p DA r2 dc::FF g s f L)) w)(ok:OkP s f.k)(hi:Inv s)(hd:p.da.length<=4194304)(hrd:s.rd.length<=8388608)(hb:(dataE s p).out.length<=70368744177664) :
  Calls Tryz.prog 120 #[.pointer (some ⟨g,0,none⟩),.agg (pc p.h EA p.en.length ec DA p.da.length dc).toArray] w fun e w'=>e=.returned (.tuple #[])/\FinR w0 X g (dataE s p) f.k.h.gr L w':=by
 refine(data_st p (toSF N hs) ok hd hi.c.tr hi.t hrd hb).mono ?_;rintro e w' ⟨h1,h2⟩;exact⟨h1,finR h2 (data_r s p)⟩
theorem askedR(N:List At){g:Nat}{s:Ss}{f:Pf}(p:PDU)(hs:St w0 X (N++(eP p EA r1 ec::dP p DA r2 dc::FF g s f L)) w)(ok:OkP s f.k) :
  Calls Tryz.prog 121 #[.pointer (some ⟨g,0,none⟩),.agg (pc p.h EA p.en.length ec DA p.da.length dc).toArray] w fun e w'=>e=.returned (.tuple #[])/\FinR w0 X g (overE s 6) f.k.h.gr L w':=by
 obtain⟨PL,hPL⟩:∃ PL,PL=pc p.h EA p.en.length ec DA p.da.length dc:=⟨_,rfl⟩
 have hs2:=toSF N hs
 obtain⟨L2,hL2⟩:∃ L2,L2=eP p EA r1 ec::dP p DA r2 dc::(N++(pR f.k.h.gr s.r f.rB f.rc::pO f.rr f.rB f.rc s.r::L)):=⟨_,rfl⟩
 rw[<-hL2] at hs2
 have CO:Hid (∀ (N:List At) w,St w0 X (N++SF g s f.k L2) w->Calls Tryz.prog 122 #[.pointer (some ⟨g,0,none⟩),.int .i64 6] w fun e w'=>e=.returned (.tuple #[])/\FinR w0 X g (overE s 6) f.k.h.gr L w'):=Lib.hid (fun N2 w hs=>by
  refine(overF N2 hs ok 6).mono ?_;rintro e w' ⟨h1,h2⟩;rw[hL2] at h2;exact⟨h1,finR (h2.sub (List.Sublist.cons _ (List.Sublist.cons _ (List.Sublist.refl _)))) rfl⟩)
 rw[<-hPL];clear hs hL2 hPL
 have hs:=hs2
 clear hs2
 go_enter Tryz.func121,Tryz.ntmps121
 go_wp2_with (first|((first|with_reducible refine Se.ab hs ?_|with_reducible refine Se.abc hs ?_);clear hs;(first|(generalize w.heap.size=g3;intro w hs)))|(go_at_call 122;refine Calls.mono (CO.out [_] _ hs) ?_;clear hs;rintro e w ⟨rfl,hs⟩))
 refine bodyPost_end (results_none rfl _ _ _) rfl ?_;exact⟨rfl,hs⟩
theorem openR(N:List At){g:Nat}{s:Ss}{f:Pf}(p:PDU)(hs:St w0 X (N++(eP p EA r1 ec::dP p DA r2 dc::FF g s f L)) w)(ok:OkP s f.k)(hi:Inv s)(hb:(openE s p).out.length<=70368744177664) :
  Calls Tryz.prog 118 #[.pointer (some ⟨g,0,none⟩),.agg (pc p.h EA p.en.length ec DA p.da.length dc).toArray] w fun e w'=>e=.returned (.tuple #[])/\FinR w0 X g (openE s p) f.k.h.gr L w':=by
 have h0:=hs.sub (L':=N++FF g s f L) (List.Sublist.append_left (List.Sublist.cons _ (List.Sublist.cons _ (List.Sublist.refl _))) N)
 have h1:=h0.perm ((List.perm_append_comm_assoc N [_,_,_,_] _).trans (List.perm_append_comm_assoc [_,_] [_,_] _))
 refine(open_st h1 hi.mo p hb).mono ?_;rintro e w' ⟨ro',OB',oc',h2,h3⟩;refine⟨h2,⟨⟨{ f.k.h with OB:=OB',oc:=oc' },ro',f.k.rq,f.k.tl,f.k.rl⟩,f.rB,f.rc,f.rr⟩,⟨ok.tx,ok.rd,ok.en,ok.re⟩,rfl,?_⟩
 have h4:=h3.perm (List.perm_append_comm_assoc [_,_] [_,_] _)
 exact h4.sub (List.Sublist.cons_cons _ (List.Sublist.cons_cons _ (List.Sublist.cons_cons _ (List.Sublist.cons_cons _ (List.sublist_append_right N _)))))
theorem reason_st(hs:St w0 X L w)(e:Nat):Calls Tryz.prog 90 #[iv e] w fun r w'=>r=.returned (iv (whyE e))/\St w0 X L w':=by
 by_cases h1:e=364
 ·subst h1
  go_enter Tryz.func90,Tryz.ntmps90
  go_wp2_with fail
  go_ret;exact⟨rfl,hs⟩
 ·have h1b:((e:Int)==364)=false:=by simp;omega
  by_cases h2:e=365
  ·subst h2
   go_enter Tryz.func90,Tryz.ntmps90
   go_wp2_with fail
   go_ret;exact⟨rfl,hs⟩
  ·have h2b:((e:Int)==365)=false:=by simp;omega
   have HE:=Lib.hid (show whyE e=1 by unfold whyE;rw[if_neg (by omega)])
   clear h1 h2
   go_enter Tryz.func90,Tryz.ntmps90
   go_wp2_with fail
   go_ret;exact⟨by rw[HE.out];rfl,hs⟩
abbrev fnv(n:Nat):Value:=.func (.func n) #[] #[]
def hdl:List ((Int × Int) × Value):=[((1,0),fnv 118),((2,4),fnv 119),((2,6),fnv 120),((2,2),fnv 121)]
theorem getK_mem{l:List ((Int × Int) × Value)}(hn:(l.map (·.1)).Nodup){k:Int × Int}{v:Value}(h:(k,v)∈l):getK l k=some v:=by
 unfold getK
 induction l with
 | nil=>cases h
 | cons p l ih =>
  simp only[List.map_cons,List.nodup_cons] at hn
  by_cases e:p.1=k
  ·rw[List.find?_cons_of_pos (by simpa using e)]
   rcases List.mem_cons.1 h with rfl|h
   ·rfl
   ·exact absurd (List.mem_map.2 ⟨_,h,rfl⟩) (by rw[<-e] at *;exact hn.1)
  ·rw[List.find?_cons_of_neg (by simpa using e)]
   rcases List.mem_cons.1 h with rfl|h
   ·exact absurd rfl e
   ·exact ih hn.2 h
theorem getK_none{l:List ((Int × Int) × Value)}{k:Int × Int}(h:∀ p∈l,p.1≠k):getK l k=none:=by
 unfold getK;rw[Option.map_eq_none_iff,List.find?_eq_none];intro p hp;simpa using h p hp
theorem getK_perm{l m:List ((Int × Int) × Value)}(h:l.Perm m)(hn:(m.map (·.1)).Nodup)(k:Int × Int):getK l k=getK m k:=by
 cases hm:getK m k with
 | none =>
  refine getK_none fun p hp=>?_
  intro e
  have h2:=getK_mem hn (k:=k) (v:=p.2) (by rw[<-e];exact h.subset hp)
  rw[hm] at h2
  cases h2
 | some v =>
  refine getK_mem ((h.map (·.1)).nodup_iff.2 hn) (h.symm.subset ?_);unfold getK at hm
  cases hf:m.find? (fun p=>p.1==k) with
  | none=>rw[hf] at hm;cases hm
  | some p =>
   rw[hf] at hm
   have h3:=List.find?_some hf
   have h4:=List.mem_of_find?_eq_some hf
   simp only[beq_iff_eq] at h3;simp only[Option.map_some,Option.some.injEq] at hm;rw[<-h3,<-hm];exact h4
theorem or_any{P:Program}{ops:Array Oper}{S:World->Prop}{N:Nat->Bool}{F:Act->World->Prop}{n:Nat}{rest:List Nat}{a:Act}{w:World}(h1:(rest.all fun q=>N q || !Or.rdy ops rest q)=true)
  (h:∀ j∈rest,Or.rdy ops rest j=true->∃ o,ops[j]? = some o/\Region.wanted o (yielded ops a.tmps)=true/\Hv.Gives P o a w (fun v w'=>S w'/\Or.AW P ops S N F n (rest.erase j) (a.put o.dst v) w')):Or.AW P ops S N F (n+1) rest a w :=
 .inr ⟨h1,fun j hj hr=>by
  obtain⟨o,h2,h3,h4⟩:=h j hj hr
  exact⟨o,h2,.inr ⟨h3,h4⟩⟩⟩
def ent:Nat->(Int × Int) × Value
 | 2=>((1,0),fnv 118)
 | 4=>((2,4),fnv 119)
 | 6=>((2,6),fnv 120)
 | _=>((2,2),fnv 121)
theorem eperm(l:List Nat)(h:l.Perm [2,4,6,8]:=by decide):(l.map ent).Perm hdl:=h.map ent
theorem hdl_nodup:(hdl.map (·.1)).Nodup:=by
 show([(1,0),(2,4),(2,6),(2,2)]:List (Int × Int)).Nodup
 decide
theorem handlers_st(hs:St w0 X L w):Calls Tryz.prog 88 #[] w fun e w'=>∃ gk l,e=.returned (.map (some gk))/\Hid (l.Perm hdl)/\St w0 X (kmp gk l::L) w':=by
 go_enter Tryz.func88,Tryz.ntmps88
 go_upto_region 1 with (fail)
 refine Or.region 11 (fun _=>True) (fun|0=>true|2=>true|4=>true|6=>true|8=>true|_=>false) (by kernel_rfl) (by decide +kernel) (trivial) ?_;replace hs:=hs.drew;generalize w.drew=w at hs ⊢;change Or.AW _ _ _ _ _ 11 [0,1,2,3,4,5,6,7,8,9,10] _ _;refine Or.pA 1 ?_;(try simp only[pU]);change Or.AW _ _ _ _ _ 10 [0,2,3,4,5,6,7,8,9,10] _ _;refine Or.pA 3 ?_;(try simp only[pU]);change Or.AW _ _ _ _ _ 9 [0,2,4,5,6,7,8,9,10] _ _;refine Or.pA 5 ?_;(try simp only[pU]);change Or.AW _ _ _ _ _ 8 [0,2,4,6,7,8,9,10] _ _;refine Or.pA 7 ?_;(try simp only[pU]);change Or.AW _ _ _ _ _ 7 [0,2,4,6,8,9,10] _ _;refine Or.one 0 (by decide +kernel) (by decide +kernel) (by rfl) (by rfl) ?_;refine Se.kmk hs rfl ?_;clear hs;rintro w gk-hs;refine⟨trivial,?_⟩;(try simp only[pU]);change Or.AW _ _ _ _ _ 6 [2,4,6,8,9,10] _ _;refine or_any (by decide +kernel) ?_;intro j hj hr
 have hj2:j∈[2,4,6,8,9,10]:=hj
 simp only[List.mem_cons,List.not_mem_nil,or_false] at hj2
 rcases hj2 with rfl|rfl|rfl|rfl|rfl|rfl
 all_goals first|exact absurd hj (by decide)|exact absurd hr (by decide +kernel)|skip
 all_goals (first|refine⟨_,rfl,by rfl,Se.kin 0 (v:=.func _ _ _) hs rfl rfl (k:=(1,0)) rfl rfl rfl Tryz.underlying168 rfl ?_⟩|refine⟨_,rfl,by rfl,Se.kin 0 (v:=.func _ _ _) hs rfl rfl (k:=(2,4)) rfl rfl rfl Tryz.underlying168 rfl ?_⟩|refine⟨_,rfl,by rfl,Se.kin 0 (v:=.func _ _ _) hs rfl rfl (k:=(2,6)) rfl rfl rfl Tryz.underlying168 rfl ?_⟩|refine⟨_,rfl,by rfl,Se.kin 0 (v:=.func _ _ _) hs rfl rfl (k:=(2,2)) rfl rfl rfl Tryz.underlying168 rfl ?_⟩)
 all_goals
  clear hs hj hr;intro w hs;simp only[pS,List.nil_append,List.cons_append] at hs;refine⟨trivial,?_⟩;(try simp only[pU])
 all_goals
  refine or_any (by decide +kernel) ?_;intro j hj hr
  have hj2:j∈[2,4,6,8,9,10]:=(List.mem_of_mem_erase hj)
  simp only[List.mem_cons,List.not_mem_nil,or_false] at hj2
  rcases hj2 with rfl|rfl|rfl|rfl|rfl|rfl
  all_goals first|exact absurd hj (by decide)|exact absurd hr (by decide +kernel)|skip
  all_goals (first|refine⟨_,rfl,by rfl,Se.kin 0 (v:=.func _ _ _) hs rfl rfl (k:=(1,0)) rfl rfl rfl Tryz.underlying168 rfl ?_⟩|refine⟨_,rfl,by rfl,Se.kin 0 (v:=.func _ _ _) hs rfl rfl (k:=(2,4)) rfl rfl rfl Tryz.underlying168 rfl ?_⟩|refine⟨_,rfl,by rfl,Se.kin 0 (v:=.func _ _ _) hs rfl rfl (k:=(2,6)) rfl rfl rfl Tryz.underlying168 rfl ?_⟩|refine⟨_,rfl,by rfl,Se.kin 0 (v:=.func _ _ _) hs rfl rfl (k:=(2,2)) rfl rfl rfl Tryz.underlying168 rfl ?_⟩)
  all_goals
   clear hs hj hr;intro w hs;simp only[pS,List.nil_append,List.cons_append] at hs;refine⟨trivial,?_⟩;(try simp only[pU])
 all_goals
  refine or_any (by decide +kernel) ?_;intro j hj hr
  have hj2:j∈[2,4,6,8,9,10]:=(List.mem_of_mem_erase (List.mem_of_mem_erase hj))
  simp only[List.mem_cons,List.not_mem_nil,or_false] at hj2
  rcases hj2 with rfl|rfl|rfl|rfl|rfl|rfl
  all_goals first|exact absurd hj (by decide)|exact absurd hr (by decide +kernel)|skip
  all_goals (first|refine⟨_,rfl,by rfl,Se.kin 0 (v:=.func _ _ _) hs rfl rfl (k:=(1,0)) rfl rfl rfl Tryz.underlying168 rfl ?_⟩|refine⟨_,rfl,by rfl,Se.kin 0 (v:=.func _ _ _) hs rfl rfl (k:=(2,4)) rfl rfl rfl Tryz.underlying168 rfl ?_⟩|refine⟨_,rfl,by rfl,Se.kin 0 (v:=.func _ _ _) hs rfl rfl (k:=(2,6)) rfl rfl rfl Tryz.underlying168 rfl ?_⟩|refine⟨_,rfl,by rfl,Se.kin 0 (v:=.func _ _ _) hs rfl rfl (k:=(2,2)) rfl rfl rfl Tryz.underlying168 rfl ?_⟩)
  all_goals
   clear hs hj hr;intro w hs;simp only[pS,List.nil_append,List.cons_append] at hs;refine⟨trivial,?_⟩;(try simp only[pU])
 all_goals
  refine or_any (by decide +kernel) ?_;intro j hj hr
  have hj2:j∈[2,4,6,8,9,10]:=(List.mem_of_mem_erase (List.mem_of_mem_erase (List.mem_of_mem_erase hj)))
  simp only[List.mem_cons,List.not_mem_nil,or_false] at hj2
  rcases hj2 with rfl|rfl|rfl|rfl|rfl|rfl
  all_goals first|exact absurd hj (by decide)|exact absurd hr (by decide +kernel)|skip
  all_goals (first|refine⟨_,rfl,by rfl,Se.kin 0 (v:=.func _ _ _) hs rfl rfl (k:=(1,0)) rfl rfl rfl Tryz.underlying168 rfl ?_⟩|refine⟨_,rfl,by rfl,Se.kin 0 (v:=.func _ _ _) hs rfl rfl (k:=(2,4)) rfl rfl rfl Tryz.underlying168 rfl ?_⟩|refine⟨_,rfl,by rfl,Se.kin 0 (v:=.func _ _ _) hs rfl rfl (k:=(2,6)) rfl rfl rfl Tryz.underlying168 rfl ?_⟩|refine⟨_,rfl,by rfl,Se.kin 0 (v:=.func _ _ _) hs rfl rfl (k:=(2,2)) rfl rfl rfl Tryz.underlying168 rfl ?_⟩)
  all_goals
   clear hs hj hr;intro w hs;simp only[pS,List.nil_append,List.cons_append] at hs;refine⟨trivial,?_⟩;(try simp only[pU])
 all_goals
  refine Or.pA 9 ?_;(try simp only[pU]);refine Or.pA 10 ?_;(try simp only[pU]);refine Or.done ?_;simp only[List.drop_succ_cons,List.drop_zero]
  go_wp2_with fail
  go_ret
  first|exact⟨gk,_,rfl,Lib.hid (eperm [2,4,6,8]),hs⟩|exact⟨gk,_,rfl,Lib.hid (eperm [2,4,8,6]),hs⟩|exact⟨gk,_,rfl,Lib.hid (eperm [2,6,4,8]),hs⟩|exact⟨gk,_,rfl,Lib.hid (eperm [2,6,8,4]),hs⟩|exact⟨gk,_,rfl,Lib.hid (eperm [2,8,4,6]),hs⟩|exact⟨gk,_,rfl,Lib.hid (eperm [2,8,6,4]),hs⟩|exact⟨gk,_,rfl,Lib.hid (eperm [4,2,6,8]),hs⟩|exact⟨gk,_,rfl,Lib.hid (eperm [4,2,8,6]),hs⟩|exact⟨gk,_,rfl,Lib.hid (eperm [4,6,2,8]),hs⟩|exact⟨gk,_,rfl,Lib.hid (eperm [4,6,8,2]),hs⟩|exact⟨gk,_,rfl,Lib.hid (eperm [4,8,2,6]),hs⟩|exact⟨gk,_,rfl,Lib.hid (eperm [4,8,6,2]),hs⟩|exact⟨gk,_,rfl,Lib.hid (eperm [6,2,4,8]),hs⟩|exact⟨gk,_,rfl,Lib.hid (eperm [6,2,8,4]),hs⟩|exact⟨gk,_,rfl,Lib.hid (eperm [6,4,2,8]),hs⟩|exact⟨gk,_,rfl,Lib.hid (eperm [6,4,8,2]),hs⟩|exact⟨gk,_,rfl,Lib.hid (eperm [6,8,2,4]),hs⟩|exact⟨gk,_,rfl,Lib.hid (eperm [6,8,4,2]),hs⟩|exact⟨gk,_,rfl,Lib.hid (eperm [8,2,4,6]),hs⟩|exact⟨gk,_,rfl,Lib.hid (eperm [8,2,6,4]),hs⟩|exact⟨gk,_,rfl,Lib.hid (eperm [8,4,2,6]),hs⟩|exact⟨gk,_,rfl,Lib.hid (eperm [8,4,6,2]),hs⟩|exact⟨gk,_,rfl,Lib.hid (eperm [8,6,2,4]),hs⟩|exact⟨gk,_,rfl,Lib.hid (eperm [8,6,4,2]),hs⟩
end Sn
end Go.Proofs.YtjnllcnknjlmmaaGreat
