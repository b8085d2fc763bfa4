/- Contracts and plain facts for the laws of layer 41. No condition. -/
import Derived.Test.YtjnllcnknjlmmaaGreatKa04
set_option linter.unusedSimpArgs false
set_option linter.unusedVariables false
set_option maxRecDepth 100000
set_option maxHeartbeats 4000000
namespace Go.Proofs.YtjnllcnknjlmmaaGreat
open Go Go.RowKit
namespace Pd
open Se (St At Reads Cell)
open Li (v8)
open Bv (n32)
variable {w0 w:World} {X:List Nat} {L:List At} {h:Hd} {EA DA:Option Addr} {en ec dn dc:Nat}
attribute [local irreducible] Calls
theorem flat3(a b c:Pt):flat [a,b,c]=a.bs++b.bs++c.bs:=by simp[flat]
theorem flat2(a b:Pt):flat [a,b]=a.bs++b.bs:=by simp[flat]
theorem flat4(a b c d:Pt):flat [a,b,c,d]=a.bs++b.bs++c.bs++d.bs:=by simp[flat]
def wInit(h:Hd):List (BitVec 8):=[0#8,0#8]++[h.al,h.dg]++numL h.mx 4
def wEnd(h:Hd):List (BitVec 8):=numL (h.st.setWidth 32) 2++numL h.nf 4
def wData(h:Hd)(n:Nat):List (BitVec 8):=numL (h.id.setWidth 32) 2++numL (h.tg.setWidth 32) 2++numL h.of 4++numL (BitVec.ofNat 32 n) 4
def wReady(h:Hd):List (BitVec 8):=numL (h.id.setWidth 32) 2++numL (h.tg.setWidth 32) 2++numL h.of 4++numL h.ln 4
theorem writeInit_st(hs:St w0 X L w):Calls Tryz.prog 193 #[.agg (pc h EA en ec DA dn dc).toArray] w fun e w'=>∃ r B c,e=.returned (.slice B 120 c)/\St w0 X (.own 1 r B 120 c ((wInit h++zs 112).map v8)::L) w':=by
 have F:=Lib.hid (fun(a b c:Pt) (h1:a.bs=[0#8,0#8]) (h2:b.bs=[h.al,h.dg]) (h3:c.bs=numL h.mx 4)=>show flat [a,b,c]=wInit h by rw[flat3,h1,h2,h3];rfl)
 have Y:=Lib.hid (show wInit h++zs (120-(wInit h).length)=wInit h++zs 112 by simp[wInit,numL_length])
 have YL:=Lib.hid (show(wInit h).length<=120 by simp[wInit,numL_length])
 unfold pc
 go_enter Tryz.func193,Tryz.ntmps193
 go_upto_region 1 with (first|((first|with_reducible refine Se.ab hs ?_|with_reducible refine Se.abc hs ?_);clear hs;(first|(generalize w.heap.size=g1;intro w hs))))
 refine Hv.grow 12 (fun|0=>some (Nown w 2 ((numL 0#32 2).map v8))|5=>some (Hv.row [v8 h.al,v8 h.dg] 5)|8=>some (Nown w 4 ((numL h.mx 4).map v8))|9=>some (Nparts 3 (wInit h))|10=>some (Nown w 120 ((wInit h++zs 112).map v8))|_=>none) (fun|9=>[[0,9],[5,9],[8,9]]|10=>[[9,10]]|_=>[]) (by kernel_rfl) (by kernel_rfl) ?_ ?_
 ·intro i m hm v wa wb hR hv
  split at hm <;> first|cases hm|skip
  all_goals first|exact Hv.row_st hR hv|exact Hv.con_st hR hv|exact Nown_st hR hv|exact Nparts_st hR hv
 ·change Hv.HW _ _ _ _ _ _ _ [0,1,2,3,4,5,6,7,8,9,10,11] _ _
  refine Hv.noise (m:=_) (by rfl) (by rfl) (by rfl) (Nown_ex _ _ _) (fun wx hS hf=>?_) (fun v hv=>?_)
  ·refine Se.gcall (f:=135) (args:=#[.int .u32 0,.int .i64 2]) ?_ ?_
   ·go_simp
   refine Calls.mono (number_any wx 0#32 2 (by omega)) ?_;rintro e w' ⟨r,B,c,rfl,hn⟩;exact⟨_,rfl,Nown_new hS hn⟩
  obtain⟨A0,c0,rfl⟩:=hv
  (try simp only[pU])
  iterate 4 ((first|refine Hv.pA ?_|refine Hv.pE (hv:=fun wx hS=>Se.xL (hc:=by rw[((hs.ext hS).hold (.blk g1 65 _) List.mem_cons_self).cell];rfl)) (h:=?_));(try simp only[pU]))
  refine Hv.noise (m:=_) (by rfl) (by rfl) (by rfl) (Hv.row_ex _ _) (fun wx hS hf=>?_) (fun v hv=>?_)
  ·unfold Hv.Gives
   go_simp
   exact Hv.row_new wx [v8 h.al,v8 h.dg] 5
  obtain⟨b5,rfl⟩:=hv
  (try simp only[pU])
  iterate 2 ((first|refine Hv.pA ?_|refine Hv.pE (hv:=fun wx hS=>Se.xL (hc:=by rw[((hs.ext hS).hold (.blk g1 65 _) List.mem_cons_self).cell];rfl)) (h:=?_));(try simp only[pU]))
  refine Hv.noise (m:=_) (by rfl) (by rfl) (by rfl) (Nown_ex _ _ _) (fun wx hS hf=>?_) (fun v hv=>?_)
  ·refine Se.gcall (f:=135) (args:=#[.int .u32 (n32 h.mx),.int .i64 4]) ?_ ?_
   ·go_simp
   refine Calls.mono (number_any wx h.mx 4 (by omega)) ?_;rintro e w' ⟨r,B,c,rfl,hn⟩;exact⟨_,rfl,Nown_new hS hn⟩
  obtain⟨A8,c8,rfl⟩:=hv
  (try simp only[pU]);refine Hv.noise (m:=_) (by rfl) (by rfl) (by rfl) (Nparts_ex _ _) (fun wx hS hf=>?_) (fun v hv=>?_)
  ·have f0:=hf _ (List.mem_cons_of_mem _ (List.mem_cons_of_mem _ (List.mem_cons_self))) ⟨[0,9],by simp,rfl⟩
   have f5:=hf _ (List.mem_cons_of_mem _ (List.mem_cons_self)) ⟨[5,9],by simp,rfl⟩
   have f8:=hf _ (List.mem_cons_self) ⟨[8,9],by simp,rfl⟩
   exact Nparts_bs wx ([⟨A0,c0,numL 0#32 2⟩,⟨some ⟨b5,0,none⟩,2,[h.al,h.dg]⟩,⟨A8,c8,numL h.mx 4⟩]) rfl (by rfl) (by rfl) (by decide) (by decide) (by simp only[List.forall_mem_cons,List.not_mem_nil,false_imp_iff,implies_true,and_true];exact⟨Nown_rd f0,row_rd f5,Nown_rd f8⟩) (by first|rfl|(simp only[flat2,flat3,flat4];rfl))
  obtain⟨b9,rfl⟩:=hv
  (try simp only[pU]);refine Hv.noise (m:=_) (by rfl) (by rfl) (by rfl) (Nown_ex _ _ _) (fun wx hS hf=>?_) (fun v hv=>?_)
  ·have f9:=hf _ (List.mem_cons_self) ⟨[9,10],by simp,rfl⟩
   refine Se.gcall (f:=137) (args:=#[.int .i64 120,.slice (some ⟨b9,0,none⟩) 3 3]) ?_ ?_
   ·go_simp
   refine Calls.mono (fields_np wx 120 f9 YL.out (by omega) (by omega) Y.out) ?_;rintro e w' ⟨r,B,c,rfl,hn⟩;exact⟨_,rfl,Nown_new hS hn⟩
  obtain⟨A,c,rfl⟩:=hv
  (try simp only[pU])
  iterate 1 (refine Hv.pA ?_;(try simp only[pU]))
  refine Hv.done (fun wx hS hf=>?_)
  obtain⟨rr,kk⟩:=hf _ (List.mem_cons_self) _ _ rfl
  replace hs:=hs.join kk (by simp[At.noRd]);clear kk hf hS;simp only[List.cons_append,List.nil_append] at hs;simp only[List.drop_succ_cons,List.drop_nil,List.drop_zero]
  go_wp2_with fail
  go_ret;exact⟨rr,A,c,rfl,hs.u11.drop⟩
section
attribute [local go_sem] Bv.wrap_n32_of Bv.of32_n16
theorem writeEnd_st(hs:St w0 X L w):Calls Tryz.prog 197 #[.agg (pc h EA en ec DA dn dc).toArray] w fun e w'=>∃ r B c,e=.returned (.slice B 16 c)/\St w0 X (.own 1 r B 16 c ((wEnd h++zs 10).map v8)::L) w':=by
 have Y:=Lib.hid (show wEnd h++zs (16-(wEnd h).length)=wEnd h++zs 10 by simp[wEnd,numL_length])
 have YL:=Lib.hid (show(wEnd h).length<=16 by simp[wEnd,numL_length])
 unfold pc
 go_enter Tryz.func197,Tryz.ntmps197
 go_upto_region 1 with (first|((first|with_reducible refine Se.ab hs ?_|with_reducible refine Se.abc hs ?_);clear hs;(first|(generalize w.heap.size=g1;intro w hs))))
 refine Hv.grow 10 (fun|3=>some (Nown w 2 ((numL (h.st.setWidth 32) 2).map v8))|6=>some (Nown w 4 ((numL h.nf 4).map v8))|7=>some (Nparts 2 (wEnd h))|8=>some (Nown w 16 ((wEnd h++zs 10).map v8))|_=>none) (fun|7=>[[3,7],[6,7]]|8=>[[7,8]]|_=>[]) (by kernel_rfl) (by kernel_rfl) ?_ ?_
 ·intro i m hm v wa wb hR hv
  split at hm <;> first|cases hm|skip
  all_goals first|exact Hv.row_st hR hv|exact Hv.con_st hR hv|exact Nown_st hR hv|exact Nparts_st hR hv
 ·change Hv.HW _ _ _ _ _ _ _ [0,1,2,3,4,5,6,7,8,9] _ _
  iterate 3 ((first|refine Hv.pA ?_|refine Hv.pE (hv:=fun wx hS=>Se.xL (hc:=by rw[((hs.ext hS).hold (.blk g1 65 _) List.mem_cons_self).cell];rfl)) (h:=?_));(try simp only[pU]))
  refine Hv.noise (m:=_) (by rfl) (by rfl) (by rfl) (Nown_ex _ _ _) (fun wx hS hf=>?_) (fun v hv=>?_)
  ·refine Se.gcall (f:=135) (args:=#[.int .u32 (n32 (h.st.setWidth 32)),.int .i64 2]) ?_ ?_
   ·go_simp
   refine Calls.mono (number_any wx (h.st.setWidth 32) 2 (by omega)) ?_;rintro e w' ⟨r,B,c,rfl,hn⟩;exact⟨_,rfl,Nown_new hS hn⟩
  obtain⟨A3,c3,rfl⟩:=hv
  (try simp only[pU])
  iterate 2 ((first|refine Hv.pA ?_|refine Hv.pE (hv:=fun wx hS=>Se.xL (hc:=by rw[((hs.ext hS).hold (.blk g1 65 _) List.mem_cons_self).cell];rfl)) (h:=?_));(try simp only[pU]))
  refine Hv.noise (m:=_) (by rfl) (by rfl) (by rfl) (Nown_ex _ _ _) (fun wx hS hf=>?_) (fun v hv=>?_)
  ·refine Se.gcall (f:=135) (args:=#[.int .u32 (n32 (h.nf)),.int .i64 4]) ?_ ?_
   ·go_simp
   refine Calls.mono (number_any wx (h.nf) 4 (by omega)) ?_;rintro e w' ⟨r,B,c,rfl,hn⟩;exact⟨_,rfl,Nown_new hS hn⟩
  obtain⟨A6,c6,rfl⟩:=hv
  (try simp only[pU]);refine Hv.noise (m:=_) (by rfl) (by rfl) (by rfl) (Nparts_ex _ _) (fun wx hS hf=>?_) (fun v hv=>?_)
  ·have f3:=hf _ (List.mem_cons_of_mem _ (List.mem_cons_self)) ⟨[3,7],by simp,rfl⟩
   have f6:=hf _ (List.mem_cons_self) ⟨[6,7],by simp,rfl⟩
   exact Nparts_bs wx ([⟨A3,c3,numL (h.st.setWidth 32) 2⟩,⟨A6,c6,numL (h.nf) 4⟩]) rfl (by rfl) (by rfl) (by decide) (by decide) (by simp only[List.forall_mem_cons,List.not_mem_nil,false_imp_iff,implies_true,and_true];exact⟨Nown_rd f3,Nown_rd f6⟩) (by first|rfl|(simp only[flat2,flat3,flat4];rfl))
  obtain⟨b9,rfl⟩:=hv
  (try simp only[pU]);refine Hv.noise (m:=_) (by rfl) (by rfl) (by rfl) (Nown_ex _ _ _) (fun wx hS hf=>?_) (fun v hv=>?_)
  ·have f9:=hf _ (List.mem_cons_self) ⟨[7,8],by simp,rfl⟩
   refine Se.gcall (f:=137) (args:=#[.int .i64 16,.slice (some ⟨b9,0,none⟩) 2 2]) ?_ ?_
   ·go_simp
   refine Calls.mono (fields_np wx 16 f9 YL.out (by omega) (by omega) Y.out) ?_;rintro e w' ⟨r,B,c,rfl,hn⟩;exact⟨_,rfl,Nown_new hS hn⟩
  obtain⟨A,c,rfl⟩:=hv
  (try simp only[pU])
  iterate 1 (refine Hv.pA ?_;(try simp only[pU]))
  refine Hv.done (fun wx hS hf=>?_)
  obtain⟨rr,kk⟩:=hf _ (List.mem_cons_self) _ _ rfl
  replace hs:=hs.join kk (by simp[At.noRd]);clear kk hf hS;simp only[List.cons_append,List.nil_append] at hs;simp only[List.drop_succ_cons,List.drop_nil,List.drop_zero]
  go_wp2_with fail
  go_ret;exact⟨rr,A,c,rfl,hs.u11.drop⟩
theorem writeReady_st(hs:St w0 X L w):Calls Tryz.prog 204 #[.agg (pc h EA en ec DA dn dc).toArray] w fun e w'=>∃ r B c,e=.returned (.slice B 16 c)/\St w0 X (.own 1 r B 16 c ((wReady h++zs 4).map v8)::L) w':=by
 have Y:=Lib.hid (show wReady h++zs (16-(wReady h).length)=wReady h++zs 4 by simp[wReady,numL_length])
 have YL:=Lib.hid (show(wReady h).length<=16 by simp[wReady,numL_length])
 unfold pc
 go_enter Tryz.func204,Tryz.ntmps204
 go_upto_region 1 with (first|((first|with_reducible refine Se.ab hs ?_|with_reducible refine Se.abc hs ?_);clear hs;(first|(generalize w.heap.size=g1;intro w hs))))
 refine Hv.grow 17 (fun|3=>some (Nown w 2 ((numL (h.id.setWidth 32) 2).map v8))|7=>some (Nown w 2 ((numL (h.tg.setWidth 32) 2).map v8))|10=>some (Nown w 4 ((numL h.of 4).map v8))|13=>some (Nown w 4 ((numL h.ln 4).map v8))|14=>some (Nparts 4 (wReady h))|15=>some (Nown w 16 ((wReady h++zs 4).map v8))|_=>none) (fun|14=>[[3,14],[7,14],[10,14],[13,14]]|15=>[[14,15]]|_=>[]) (by kernel_rfl) (by kernel_rfl) ?_ ?_
 ·intro i m hm v wa wb hR hv
  split at hm <;> first|cases hm|skip
  all_goals first|exact Hv.row_st hR hv|exact Hv.con_st hR hv|exact Nown_st hR hv|exact Nparts_st hR hv
 ·change Hv.HW _ _ _ _ _ _ _ [0,1,2,3,4,5,6,7,8,9,10,11,12,13,14,15,16] _ _
  iterate 3 ((first|refine Hv.pA ?_|refine Hv.pE (hv:=fun wx hS=>Se.xL (hc:=by rw[((hs.ext hS).hold (.blk g1 65 _) List.mem_cons_self).cell];rfl)) (h:=?_));(try simp only[pU]))
  refine Hv.noise (m:=_) (by rfl) (by rfl) (by rfl) (Nown_ex _ _ _) (fun wx hS hf=>?_) (fun v hv=>?_)
  ·refine Se.gcall (f:=135) (args:=#[.int .u32 (n32 (h.id.setWidth 32)),.int .i64 2]) ?_ ?_
   ·go_simp
   refine Calls.mono (number_any wx (h.id.setWidth 32) 2 (by omega)) ?_;rintro e w' ⟨r,B,c,rfl,hn⟩;exact⟨_,rfl,Nown_new hS hn⟩
  obtain⟨A3,c3,rfl⟩:=hv
  (try simp only[pU])
  iterate 3 ((first|refine Hv.pA ?_|refine Hv.pE (hv:=fun wx hS=>Se.xL (hc:=by rw[((hs.ext hS).hold (.blk g1 65 _) List.mem_cons_self).cell];rfl)) (h:=?_));(try simp only[pU]))
  refine Hv.noise (m:=_) (by rfl) (by rfl) (by rfl) (Nown_ex _ _ _) (fun wx hS hf=>?_) (fun v hv=>?_)
  ·refine Se.gcall (f:=135) (args:=#[.int .u32 (n32 (h.tg.setWidth 32)),.int .i64 2]) ?_ ?_
   ·go_simp
   refine Calls.mono (number_any wx (h.tg.setWidth 32) 2 (by omega)) ?_;rintro e w' ⟨r,B,c,rfl,hn⟩;exact⟨_,rfl,Nown_new hS hn⟩
  obtain⟨A7,c7,rfl⟩:=hv
  (try simp only[pU])
  iterate 2 ((first|refine Hv.pA ?_|refine Hv.pE (hv:=fun wx hS=>Se.xL (hc:=by rw[((hs.ext hS).hold (.blk g1 65 _) List.mem_cons_self).cell];rfl)) (h:=?_));(try simp only[pU]))
  refine Hv.noise (m:=_) (by rfl) (by rfl) (by rfl) (Nown_ex _ _ _) (fun wx hS hf=>?_) (fun v hv=>?_)
  ·refine Se.gcall (f:=135) (args:=#[.int .u32 (n32 (h.of)),.int .i64 4]) ?_ ?_
   ·go_simp
   refine Calls.mono (number_any wx (h.of) 4 (by omega)) ?_;rintro e w' ⟨r,B,c,rfl,hn⟩;exact⟨_,rfl,Nown_new hS hn⟩
  obtain⟨A10,c10,rfl⟩:=hv
  (try simp only[pU])
  iterate 2 ((first|refine Hv.pA ?_|refine Hv.pE (hv:=fun wx hS=>Se.xL (hc:=by rw[((hs.ext hS).hold (.blk g1 65 _) List.mem_cons_self).cell];rfl)) (h:=?_));(try simp only[pU]))
  refine Hv.noise (m:=_) (by rfl) (by rfl) (by rfl) (Nown_ex _ _ _) (fun wx hS hf=>?_) (fun v hv=>?_)
  ·refine Se.gcall (f:=135) (args:=#[.int .u32 (n32 (h.ln)),.int .i64 4]) ?_ ?_
   ·go_simp
   refine Calls.mono (number_any wx (h.ln) 4 (by omega)) ?_;rintro e w' ⟨r,B,c,rfl,hn⟩;exact⟨_,rfl,Nown_new hS hn⟩
  obtain⟨A13,c13,rfl⟩:=hv
  (try simp only[pU]);refine Hv.noise (m:=_) (by rfl) (by rfl) (by rfl) (Nparts_ex _ _) (fun wx hS hf=>?_) (fun v hv=>?_)
  ·have f3:=hf _ (List.mem_cons_of_mem _ (List.mem_cons_of_mem _ (List.mem_cons_of_mem _ (List.mem_cons_self)))) ⟨[3,14],by simp,rfl⟩
   have f7:=hf _ (List.mem_cons_of_mem _ (List.mem_cons_of_mem _ (List.mem_cons_self))) ⟨[7,14],by simp,rfl⟩
   have f10:=hf _ (List.mem_cons_of_mem _ (List.mem_cons_self)) ⟨[10,14],by simp,rfl⟩
   have f13:=hf _ (List.mem_cons_self) ⟨[13,14],by simp,rfl⟩
   exact Nparts_bs wx ([⟨A3,c3,numL (h.id.setWidth 32) 2⟩,⟨A7,c7,numL (h.tg.setWidth 32) 2⟩,⟨A10,c10,numL (h.of) 4⟩,⟨A13,c13,numL (h.ln) 4⟩]) rfl (by rfl) (by rfl) (by decide) (by decide) (by simp only[List.forall_mem_cons,List.not_mem_nil,false_imp_iff,implies_true,and_true];exact⟨Nown_rd f3,Nown_rd f7,Nown_rd f10,Nown_rd f13⟩) (by first|rfl|(simp only[flat2,flat3,flat4];rfl))
  obtain⟨b9,rfl⟩:=hv
  (try simp only[pU]);refine Hv.noise (m:=_) (by rfl) (by rfl) (by rfl) (Nown_ex _ _ _) (fun wx hS hf=>?_) (fun v hv=>?_)
  ·have f9:=hf _ (List.mem_cons_self) ⟨[14,15],by simp,rfl⟩
   refine Se.gcall (f:=137) (args:=#[.int .i64 16,.slice (some ⟨b9,0,none⟩) 4 4]) ?_ ?_
   ·go_simp
   refine Calls.mono (fields_np wx 16 f9 YL.out (by omega) (by omega) Y.out) ?_;rintro e w' ⟨r,B,c,rfl,hn⟩;exact⟨_,rfl,Nown_new hS hn⟩
  obtain⟨A,c,rfl⟩:=hv
  (try simp only[pU])
  iterate 1 (refine Hv.pA ?_;(try simp only[pU]))
  refine Hv.done (fun wx hS hf=>?_)
  obtain⟨rr,kk⟩:=hf _ (List.mem_cons_self) _ _ rfl
  replace hs:=hs.join kk (by simp[At.noRd]);clear kk hf hS;simp only[List.cons_append,List.nil_append] at hs;simp only[List.drop_succ_cons,List.drop_nil,List.drop_zero]
  go_wp2_with fail
  go_ret;exact⟨rr,A,c,rfl,hs.u11.drop⟩
theorem writeData_st(hs:St w0 X L w):Calls Tryz.prog 201 #[.agg (pc h EA en ec DA dn dc).toArray] w fun e w'=>∃ r B c,e=.returned (.slice B 16 c)/\St w0 X (.own 1 r B 16 c ((wData h dn++zs 4).map v8)::L) w':=by
 have Y:=Lib.hid (show wData h dn++zs (16-(wData h dn).length)=wData h dn++zs 4 by simp[wData,numL_length])
 have YL:=Lib.hid (show(wData h dn).length<=16 by simp[wData,numL_length])
 unfold pc
 go_enter Tryz.func201,Tryz.ntmps201
 go_upto_region 1 with (first|((first|with_reducible refine Se.ab hs ?_|with_reducible refine Se.abc hs ?_);clear hs;(first|(generalize w.heap.size=g1;intro w hs))))
 refine Hv.grow 19 (fun|3=>some (Nown w 2 ((numL (h.id.setWidth 32) 2).map v8))|7=>some (Nown w 2 ((numL (h.tg.setWidth 32) 2).map v8))|10=>some (Nown w 4 ((numL h.of 4).map v8))|15=>some (Nown w 4 ((numL (BitVec.ofNat 32 dn) 4).map v8))|16=>some (Nparts 4 (wData h dn))|17=>some (Nown w 16 ((wData h dn++zs 4).map v8))|_=>none) (fun|16=>[[3,16],[7,16],[10,16],[15,16]]|17=>[[16,17]]|_=>[]) (by kernel_rfl) (by kernel_rfl) ?_ ?_
 ·intro i m hm v wa wb hR hv
  split at hm <;> first|cases hm|skip
  all_goals first|exact Hv.row_st hR hv|exact Hv.con_st hR hv|exact Nown_st hR hv|exact Nparts_st hR hv
 ·change Hv.HW _ _ _ _ _ _ _ [0,1,2,3,4,5,6,7,8,9,10,11,12,13,14,15,16,17,18] _ _
  iterate 3 ((first|refine Hv.pA ?_|refine Hv.pE (hv:=fun wx hS=>Se.xL (hc:=by rw[((hs.ext hS).hold (.blk g1 65 _) List.mem_cons_self).cell];rfl)) (h:=?_));(try simp only[pU]))
  refine Hv.noise (m:=_) (by rfl) (by rfl) (by rfl) (Nown_ex _ _ _) (fun wx hS hf=>?_) (fun v hv=>?_)
  ·refine Se.gcall (f:=135) (args:=#[.int .u32 (n32 (h.id.setWidth 32)),.int .i64 2]) ?_ ?_
   ·go_simp
   refine Calls.mono (number_any wx (h.id.setWidth 32) 2 (by omega)) ?_;rintro e w' ⟨r,B,c,rfl,hn⟩;exact⟨_,rfl,Nown_new hS hn⟩
  obtain⟨A3,c3,rfl⟩:=hv
  (try simp only[pU])
  iterate 3 ((first|refine Hv.pA ?_|refine Hv.pE (hv:=fun wx hS=>Se.xL (hc:=by rw[((hs.ext hS).hold (.blk g1 65 _) List.mem_cons_self).cell];rfl)) (h:=?_));(try simp only[pU]))
  refine Hv.noise (m:=_) (by rfl) (by rfl) (by rfl) (Nown_ex _ _ _) (fun wx hS hf=>?_) (fun v hv=>?_)
  ·refine Se.gcall (f:=135) (args:=#[.int .u32 (n32 (h.tg.setWidth 32)),.int .i64 2]) ?_ ?_
   ·go_simp
   refine Calls.mono (number_any wx (h.tg.setWidth 32) 2 (by omega)) ?_;rintro e w' ⟨r,B,c,rfl,hn⟩;exact⟨_,rfl,Nown_new hS hn⟩
  obtain⟨A7,c7,rfl⟩:=hv
  (try simp only[pU])
  iterate 2 ((first|refine Hv.pA ?_|refine Hv.pE (hv:=fun wx hS=>Se.xL (hc:=by rw[((hs.ext hS).hold (.blk g1 65 _) List.mem_cons_self).cell];rfl)) (h:=?_));(try simp only[pU]))
  refine Hv.noise (m:=_) (by rfl) (by rfl) (by rfl) (Nown_ex _ _ _) (fun wx hS hf=>?_) (fun v hv=>?_)
  ·refine Se.gcall (f:=135) (args:=#[.int .u32 (n32 (h.of)),.int .i64 4]) ?_ ?_
   ·go_simp
   refine Calls.mono (number_any wx (h.of) 4 (by omega)) ?_;rintro e w' ⟨r,B,c,rfl,hn⟩;exact⟨_,rfl,Nown_new hS hn⟩
  obtain⟨A10,c10,rfl⟩:=hv
  (try simp only[pU])
  iterate 4 ((first|refine Hv.pA ?_|refine Hv.pE (hv:=fun wx hS=>Se.xL (hc:=by rw[((hs.ext hS).hold (.blk g1 65 _) List.mem_cons_self).cell];rfl)) (h:=?_));(try simp only[pU]))
  refine Hv.noise (m:=_) (by rfl) (by rfl) (by rfl) (Nown_ex _ _ _) (fun wx hS hf=>?_) (fun v hv=>?_)
  ·refine Se.gcall (f:=135) (args:=#[.int .u32 (n32 (BitVec.ofNat 32 dn)),.int .i64 4]) ?_ ?_
   ·go_simp
   refine Calls.mono (number_any wx (BitVec.ofNat 32 dn) 4 (by omega)) ?_;rintro e w' ⟨r,B,c,rfl,hn⟩;exact⟨_,rfl,Nown_new hS hn⟩
  obtain⟨A15,c15,rfl⟩:=hv
  (try simp only[pU]);refine Hv.noise (m:=_) (by rfl) (by rfl) (by rfl) (Nparts_ex _ _) (fun wx hS hf=>?_) (fun v hv=>?_)
  ·have f3:=hf _ (List.mem_cons_of_mem _ (List.mem_cons_of_mem _ (List.mem_cons_of_mem _ (List.mem_cons_self)))) ⟨[3,16],by simp,rfl⟩
   have f7:=hf _ (List.mem_cons_of_mem _ (List.mem_cons_of_mem _ (List.mem_cons_self))) ⟨[7,16],by simp,rfl⟩
   have f10:=hf _ (List.mem_cons_of_mem _ (List.mem_cons_self)) ⟨[10,16],by simp,rfl⟩
   have f15:=hf _ (List.mem_cons_self) ⟨[15,16],by simp,rfl⟩
   exact Nparts_bs wx ([⟨A3,c3,numL (h.id.setWidth 32) 2⟩,⟨A7,c7,numL (h.tg.setWidth 32) 2⟩,⟨A10,c10,numL (h.of) 4⟩,⟨A15,c15,numL (BitVec.ofNat 32 dn) 4⟩]) rfl (by rfl) (by rfl) (by decide) (by decide) (by simp only[List.forall_mem_cons,List.not_mem_nil,false_imp_iff,implies_true,and_true];exact⟨Nown_rd f3,Nown_rd f7,Nown_rd f10,Nown_rd f15⟩) (by first|rfl|(simp only[flat2,flat3,flat4];rfl))
  obtain⟨b9,rfl⟩:=hv
  (try simp only[pU]);refine Hv.noise (m:=_) (by rfl) (by rfl) (by rfl) (Nown_ex _ _ _) (fun wx hS hf=>?_) (fun v hv=>?_)
  ·have f9:=hf _ (List.mem_cons_self) ⟨[16,17],by simp,rfl⟩
   refine Se.gcall (f:=137) (args:=#[.int .i64 16,.slice (some ⟨b9,0,none⟩) 4 4]) ?_ ?_
   ·go_simp
   refine Calls.mono (fields_np wx 16 f9 YL.out (by omega) (by omega) Y.out) ?_;rintro e w' ⟨r,B,c,rfl,hn⟩;exact⟨_,rfl,Nown_new hS hn⟩
  obtain⟨A,c,rfl⟩:=hv
  (try simp only[pU])
  iterate 1 (refine Hv.pA ?_;(try simp only[pU]))
  refine Hv.done (fun wx hS hf=>?_)
  obtain⟨rr,kk⟩:=hf _ (List.mem_cons_self) _ _ rfl
  replace hs:=hs.join kk (by simp[At.noRd]);clear kk hf hS;simp only[List.cons_append,List.nil_append] at hs;simp only[List.drop_succ_cons,List.drop_nil,List.drop_zero]
  go_wp2_with fail
  go_ret;exact⟨rr,A,c,rfl,hs.u11.drop⟩
end
theorem writeEntry_st(hs:St w0 X L w){bs:List (BitVec 8)}(hn:en=bs.length)(hE:Reads L EA (bs.map v8))(hle:en<=70368744177664):Calls Tryz.prog 199 #[.agg (pc h EA en ec DA dn dc).toArray] w fun e w'=>∃ r B c,e=.returned (.slice B en c)/\St w0 X (.own 1 r B en c (bs.map v8)::L) w':=by
 have HN:=Lib.hid hn
 have HE:=Lib.hid hE
 unfold pc;clear hn hE
 go_enter Tryz.func199,Tryz.ntmps199
 go_wp2_with (first|((with_reducible refine Se.iL 4 ?_);(refine Se.Ld hs rfl rfl (Cell.blk 0 rfl rfl) ?_))|((first|with_reducible refine Se.ab hs ?_|with_reducible refine Se.abc hs ?_);clear hs;(first|(generalize w.heap.size=g1;intro w hs)))|(go_at_call 66;refine Calls.mono (clone_st hs (HE.out.cons _) HN.out hle) ?_;clear hs;rintro e w ⟨r,B,c,rfl,hs⟩))
 go_ret;exact⟨r,B,c,rfl,hs.u11.drop⟩
end Pd
end Go.Proofs.YtjnllcnknjlmmaaGreat
namespace Go.Proofs.YtjnllcnknjlmmaaGreat
open Go Go.RowKit
namespace Pd
open Se (St At Reads Cell)
open Li (v8 v8_one Rd)
open Bv (n8 n32)
variable {w0 w:World} {X:List Nat} {L:List At} {h:Hd} {EA DA:Option Addr} {en ec dn dc:Nat}
attribute [local irreducible] Calls
theorem ivi:(Tryz.prog.info? 3).map (fun i=>(i.zero,i.size))=some (some (.int .i64 0),1):=by kernel_rfl
theorem rHeader_st(hs:St w0 X L w)(k:Nat)(hk:k<256){n:Nat}(hn:hdr k=n):Calls Tryz.prog 78 #[iv k] w fun e w'=>e=.returned (iv n)/\St w0 X L w':=by
 have h0:¬ ((k:Int)<0):=by omega
 have h0':decide ((k:Int)<0)=false:=by simp
 have key:(k=0\/k=1\/k=2\/k=3\/k=4\/k=5\/k=6\/k=7\/k=8\/k=9)\/9<k:=by omega
 subst hn
 rcases key with (rfl|rfl|rfl|rfl|rfl|rfl|rfl|rfl|rfl|rfl)|h9
 iterate 10
  ·clear h0 h0' hk
   go_enter Tryz.func78,Tryz.ntmps78
   go_wp2_with (first|((with_reducible refine Se.iL 9 ?_);(refine Se.toL rfl (Se.bsv (o:=⟨some 9,_,_,_,_,_⟩) hs rfl Tryz.underlying124 ivi rfl ([.int .i64 128,.int .i64 128,.int .i64 24,.int .i64 24,.int .i64 72,.int .i64 24,.int .i64 24,.int .i64 24,.int .i64 0,.int .i64 24]) (by rfl) (by rfl) (by decide) (by decide) (by simp[Value.oneCell']) ?_);clear hs;rintro w g9-hs))|((with_reducible refine Se.iL 12 ?_);(refine Se.Ld hs rfl rfl (Cell.blk 0 rfl rfl) ?_)))
   go_ret;exact⟨rfl,hs.drop⟩
 ·have h9':decide ((9:Int)<(k:Int))=true:=by simp;omega
  have e:hdr k=0:=by unfold hdr;split <;> omega
  rw[e];clear h9 e
  go_enter Tryz.func78,Tryz.ntmps78
  go_wp2_with fail
  go_ret;exact⟨rfl,hs⟩
theorem rHeaderSum_st(hs:St w0 X L w)(k:Nat)(f:Fm){n:Nat}(hn:hsum k f=n):Calls Tryz.prog 76 #[iv k,fv f] w fun e w'=>e=.returned (iv n)/\St w0 X L w':=by
 obtain⟨hd,dd,al⟩:=f
 unfold fv
 dsimp only
 by_cases h3:3<k
 ·have h3':(3:Int)<(k:Int):=by omega
  cases hd with
  | true =>
   obtain rfl:n=4:=by rw[<-hn];unfold hsum;rw[if_pos ⟨h3,rfl⟩]
   clear hn h3
   go_enter Tryz.func76,Tryz.ntmps76
   go_wp2_with (first|((with_reducible refine Se.iL 8 ?_);(refine Se.Ld hs rfl rfl (Cell.blk 0 rfl rfl) ?_))|((with_reducible refine Se.iL 7 ?_);(refine Se.Ld hs rfl rfl (Cell.blk 0 rfl rfl) ?_))|((with_reducible refine Se.iL 9 ?_);(refine Se.Ld hs rfl rfl (Cell.blk 0 rfl rfl) ?_))|((with_reducible refine Se.iL 6 ?_);(refine Se.Ld hs rfl rfl (Cell.blk 0 rfl rfl) ?_))|((with_reducible refine Se.iL 10 ?_);(refine Se.Ld hs rfl rfl (Cell.blk 0 rfl rfl) ?_))|((first|with_reducible refine Se.ab hs ?_|with_reducible refine Se.abc hs ?_);clear hs;(first|(generalize w.heap.size=g2;intro w hs))))
   go_ret;exact⟨rfl,hs.drop⟩
  | false =>
   obtain rfl:n=0:=by rw[<-hn];unfold hsum;rw[if_neg (by simp)]
   clear hn h3
   go_enter Tryz.func76,Tryz.ntmps76
   go_wp2_with (first|((with_reducible refine Se.iL 8 ?_);(refine Se.Ld hs rfl rfl (Cell.blk 0 rfl rfl) ?_))|((with_reducible refine Se.iL 7 ?_);(refine Se.Ld hs rfl rfl (Cell.blk 0 rfl rfl) ?_))|((with_reducible refine Se.iL 9 ?_);(refine Se.Ld hs rfl rfl (Cell.blk 0 rfl rfl) ?_))|((with_reducible refine Se.iL 6 ?_);(refine Se.Ld hs rfl rfl (Cell.blk 0 rfl rfl) ?_))|((with_reducible refine Se.iL 10 ?_);(refine Se.Ld hs rfl rfl (Cell.blk 0 rfl rfl) ?_))|((first|with_reducible refine Se.ab hs ?_|with_reducible refine Se.abc hs ?_);clear hs;(first|(generalize w.heap.size=g2;intro w hs))))
   go_ret;exact⟨rfl,hs.drop⟩
 ·have h3':decide ((3:Int)<(k:Int))=false:=by simp;omega
  obtain rfl:n=0:=by rw[<-hn];unfold hsum;rw[if_neg (by omega)]
  clear hn h3
  go_enter Tryz.func76,Tryz.ntmps76
  go_wp2_with (first|((first|with_reducible refine Se.ab hs ?_|with_reducible refine Se.abc hs ?_);clear hs;(first|(generalize w.heap.size=g2;intro w hs))))
  go_ret;exact⟨rfl,hs.drop⟩
end Pd
end Go.Proofs.YtjnllcnknjlmmaaGreat
namespace Go.Proofs.YtjnllcnknjlmmaaGreat
open Go Go.RowKit
namespace Pd
open Se (St At Reads Cell)
open Li (v8 v8_one Rd)
open Bv (n8 n32)
variable {w0 w:World} {X:List Nat} {L:List At} {h:Hd} {EA DA:Option Addr} {en ec dn dc:Nat}
attribute [local irreducible] Calls
theorem rDataSum_st(hs:St w0 X L w)(k:Nat)(f:Fm)(data:Bool){n:Nat}(hn:dsum k f data=n):Calls Tryz.prog 77 #[iv k,fv f,.bool data] w fun e w'=>e=.returned (iv n)/\St w0 X L w':=by
 obtain⟨hd,dd,al⟩:=f
 unfold fv
 dsimp only
 by_cases h3:3<k
 ·have h3':(3:Int)<(k:Int):=by omega
  have en:n=if dd=true/\data=true then 4 else 0:=by rw[<-hn];unfold dsum;simp[h3]
  clear hn h3
  cases dd <;> cases data <;> simp only[Bool.false_eq_true,if_true,if_false,and_true,and_false,and_self,true_and,false_and] at en <;> subst en
  all_goals
   go_enter Tryz.func77,Tryz.ntmps77
   go_wp2_with (first|((with_reducible refine Se.iL 11 ?_);(refine Se.Ld hs rfl rfl (Cell.blk 0 rfl rfl) ?_))|((first|with_reducible refine Se.ab hs ?_|with_reducible refine Se.abc hs ?_);clear hs;(first|(generalize w.heap.size=g4;intro w hs))))
   go_ret;exact⟨rfl,hs.drop⟩
 ·have h3':decide ((3:Int)<(k:Int))=false:=by simp;omega
  obtain rfl:n=0:=by rw[<-hn];unfold dsum;rw[if_neg (by omega)]
  clear hn h3
  go_enter Tryz.func77,Tryz.ntmps77
  go_wp2_with (first|((first|with_reducible refine Se.ab hs ?_|with_reducible refine Se.abc hs ?_);clear hs;(first|(generalize w.heap.size=g4;intro w hs))))
  go_ret;exact⟨rfl,hs.drop⟩
theorem rHeader_any(w:World)(k:Nat)(hk:k<256){n:Nat}(hn:hdr k=n):Calls Tryz.prog 78 #[iv k] w fun e w'=>e=.returned (iv n)/\Below w.heap.size w w' :=
 (rHeader_st (St.start (L:=[]) w (by simp) rfl) k hk hn).mono fun _ _ ⟨h1,h2⟩=>⟨h1,h2.below⟩
theorem rHeaderSum_any(w:World)(k:Nat)(f:Fm){n:Nat}(hn:hsum k f=n):Calls Tryz.prog 76 #[iv k,fv f] w fun e w'=>e=.returned (iv n)/\Below w.heap.size w w' :=
 (rHeaderSum_st (St.start (L:=[]) w (by simp) rfl) k f hn).mono fun _ _ ⟨h1,h2⟩=>⟨h1,h2.below⟩
theorem ceil_eq{T u j:Nat}(hu:1<=u)(h1:j*u<T+u)(h2:T<=j*u):(T+u-1) / u*u=j*u:=by
 congr 1
 refine Nat.div_eq_of_lt_le (by omega) ?_;rw[Nat.add_mul];omega
theorem rStart_st(hs:St w0 X L w)(k:Nat)(hk:k<256){f:Fm}(hf:framed f=true){n:Nat}(hn:start k f=n):Calls Tryz.prog 79 #[iv k,fv f] w fun e w'=>e=.returned (iv n)/\St w0 X L w':=by
 have hal:=framed_al hf
 obtain⟨s,hh⟩:∃ s,s=hsum k f:=⟨_,rfl⟩
 obtain⟨q,hq⟩:∃ q,q=hdr k:=⟨_,rfl⟩
 obtain⟨u,hu⟩:∃ u,u=unit k f:=⟨_,rfl⟩
 have hul:1<=u/\u<=128:=by rw[hu];unfold unit;split <;> omega
 have hql:q<=128:=by rw[hq];exact hdr_le k
 have hsl:s<=4:=by rw[hh];exact hsum_le k f
 have HN:Hid (∀ j,j*u<q+s+u->q+s<=j*u->j*u=n):=Lib.hid (fun j h1 h2=>by rw[<-hn,<-ceil_eq hul.1 h1 h2,hq,hh,hu];rfl)
 have CH:=Lib.hid (fun w=>rHeader_any w k hk hq.symm)
 have CS:=Lib.hid (fun w=>rHeaderSum_any w k f hh.symm)
 have e1:=IntWalk.i64_in ((q:Int)+(s:Int)) (by omega)
 have hu0:unit k f=u:=hu.symm
 clear hn hq hh hu hf
 obtain⟨hdb,ddb,al⟩:=f
 unfold fv at CS ⊢
 dsimp only at hal CS ⊢
 have b1:IntKind.i64.wrap (al+1)=al+1:=IntWalk.i64_in _ (by omega)
 have b2:IntKind.i64.wrap (4*(al+1))=4*(al+1):=IntWalk.i64_in _ (by omega)
 have hcu:(((3:Int)<(k:Int))/\4*(al+1)=(u:Int))\/(¬ ((3:Int)<(k:Int))/\u=4):=by
  unfold unit at hu0
  dsimp only at hu0
  by_cases h3:3<k
  ·left;rw[if_pos h3] at hu0;exact⟨by omega,by omega⟩
  ·right;rw[if_neg h3] at hu0;exact⟨by omega,hu0.symm⟩
 clear hu0
 rcases hcu with ⟨h3,hu⟩|⟨h3,rfl⟩
 ·go_enter Tryz.func79,Tryz.ntmps79
  go_upto_region 4 with (first|((with_reducible refine Se.iL 10 ?_);(refine Se.Ld hs rfl rfl (Cell.blk 0 rfl rfl) ?_))|((first|with_reducible refine Se.ab hs ?_|with_reducible refine Se.abc hs ?_);clear hs;(first|(generalize w.heap.size=g3;intro w hs))))
  go_wp2_with fail
  go_loopg [6] (q+s+u) (fun gh s6 wr=>∃ j:Nat,gh=q+s+u-j*u/\j*u<q+s+u/\s6=.int .i64 ((j*u:Nat):Int)/\St w0 X (.blk g3 54 [.bool hdb,.bool ddb,.int .i64 al]::L) wr)
  case atStart=>exact⟨0,by omega,by omega,by simp,hs⟩
  case round =>
   clear hs
   rename World=>w
   obtain⟨j,rfl,hj,rfl,hs⟩:=hrel
   obtain⟨a,ha⟩:∃ a,a=j*u:=⟨_,rfl⟩
   have hs1:(j+1)*u=a+u:=by rw[Nat.add_mul,ha];try omega
   have HS1:=Lib.hid hs1
   have HA:=Lib.hid ha
   rw[<-ha] at hj ⊢
   have e2:=IntWalk.i64_in ((a:Int)+(u:Int)) (by omega)
   clear hs1 ha
   by_cases hlt:a<q+s
   ·have hlt':(a:Int)<(q:Int)+(s:Int):=by omega
    go_wp2_with fail
    refine Hv.grow 8 (fun|2=>some (Hv.con (iv q))|5=>some (Hv.con (iv s))|_=>none) (fun _=>[]) (by kernel_rfl) (by kernel_rfl) ?_ ?_
    ·intro i m hm v wa wb hR hv
     split at hm <;> first|cases hm|skip
     all_goals first|exact Hv.row_st hR hv|exact Hv.con_st hR hv|exact Nown_st hR hv|exact Nparts_st hR hv
    ·change Hv.HW _ _ _ _ _ _ _ [0,1,2,3,4,5,6,7] _ _
     iterate 2 (refine Hv.pA ?_;(try simp only[pU]))
     refine Hv.noise (m:=_) (by rfl) (by rfl) (by rfl) (Hv.con_ex _) (fun wx hS hf=>?_) (fun v hv=>?_)
     ·unfold Hv.Gives
      go_simp
      refine(CH.out _).mono ?_;rintro e w' ⟨rfl,hb⟩;exact⟨_,rfl,hb,rfl,trivial⟩
     obtain rfl:=hv
     (try simp only[pU])
     iterate 2 ((first|refine Hv.pA ?_|refine Hv.pE (hv:=fun wx hS=>Se.xR (hr:=Li.Rd.of_blk ((hs.ext hS).hold (.blk g3 54 _) List.mem_cons_self))) (h:=?_));(try simp only[pU]))
     refine Hv.noise (m:=_) (by rfl) (by rfl) (by rfl) (Hv.con_ex _) (fun wx hS hf=>?_) (fun v hv=>?_)
     ·unfold Hv.Gives
      go_simp
      refine(CS.out _).mono ?_;rintro e w' ⟨rfl,hb⟩;exact⟨_,rfl,hb,rfl,trivial⟩
     obtain rfl:=hv
     (try simp only[pU])
     iterate 2 (refine Hv.pA ?_;(try simp only[pU]))
     refine Hv.done (fun wx hS _=>?_);replace hs:=hs.ext hS;clear hS;simp only[List.drop_succ_cons,List.drop_nil]
     go_wp2_with fail
     go_roundg (q+s+u-(j+1)*u)
     case measure=>have:=HS1.out;have:=HA.out;omega
     case rel=>exact⟨j+1,rfl,by have:=HS1.out;omega,by rw[HS1.out];simp,hs⟩
   ·have hlt':decide ((a:Int)<(q:Int)+(s:Int))=false:=by simp;omega
    have hn2:=HN.out j (by rw[<-HA.out];exact hj) (by rw[<-HA.out];omega)
    rw[<-HA.out] at hn2
    have HN2:=Lib.hid hn2
    clear hn2
    go_wp2_with fail
    refine Hv.grow 8 (fun|2=>some (Hv.con (iv q))|5=>some (Hv.con (iv s))|_=>none) (fun _=>[]) (by kernel_rfl) (by kernel_rfl) ?_ ?_
    ·intro i m hm v wa wb hR hv
     split at hm <;> first|cases hm|skip
     all_goals first|exact Hv.row_st hR hv|exact Hv.con_st hR hv|exact Nown_st hR hv|exact Nparts_st hR hv
    ·change Hv.HW _ _ _ _ _ _ _ [0,1,2,3,4,5,6,7] _ _
     iterate 2 (refine Hv.pA ?_;(try simp only[pU]))
     refine Hv.noise (m:=_) (by rfl) (by rfl) (by rfl) (Hv.con_ex _) (fun wx hS hf=>?_) (fun v hv=>?_)
     ·unfold Hv.Gives
      go_simp
      refine(CH.out _).mono ?_;rintro e w' ⟨rfl,hb⟩;exact⟨_,rfl,hb,rfl,trivial⟩
     obtain rfl:=hv
     (try simp only[pU])
     iterate 2 ((first|refine Hv.pA ?_|refine Hv.pE (hv:=fun wx hS=>Se.xR (hr:=Li.Rd.of_blk ((hs.ext hS).hold (.blk g3 54 _) List.mem_cons_self))) (h:=?_));(try simp only[pU]))
     refine Hv.noise (m:=_) (by rfl) (by rfl) (by rfl) (Hv.con_ex _) (fun wx hS hf=>?_) (fun v hv=>?_)
     ·unfold Hv.Gives
      go_simp
      refine(CS.out _).mono ?_;rintro e w' ⟨rfl,hb⟩;exact⟨_,rfl,hb,rfl,trivial⟩
     obtain rfl:=hv
     (try simp only[pU])
     iterate 2 (refine Hv.pA ?_;(try simp only[pU]))
     refine Hv.done (fun wx hS _=>?_);replace hs:=hs.ext hS;clear hS;simp only[List.drop_succ_cons,List.drop_nil]
     go_wp2_with fail
     go_ret;exact⟨by rw[<-HN2.out];rfl,hs.drop⟩
 ·go_enter Tryz.func79,Tryz.ntmps79
  go_upto_region 4 with (first|((first|with_reducible refine Se.ab hs ?_|with_reducible refine Se.abc hs ?_);clear hs;(first|(generalize w.heap.size=g3;intro w hs))))
  go_wp2_with fail
  go_loopg [6] (q+s+4) (fun gh s6 wr=>∃ j:Nat,gh=q+s+4-j*4/\j*4<q+s+4/\s6=.int .i64 ((j*4:Nat):Int)/\St w0 X (.blk g3 54 [.bool hdb,.bool ddb,.int .i64 al]::L) wr)
  case atStart=>exact⟨0,by omega,by omega,by simp,hs⟩
  case round =>
   clear hs
   rename World=>w
   obtain⟨j,rfl,hj,rfl,hs⟩:=hrel
   obtain⟨a,ha⟩:∃ a,a=j*4:=⟨_,rfl⟩
   have hs1:(j+1)*4=a+4:=by rw[Nat.add_mul,ha];try omega
   have HS1:=Lib.hid hs1
   have HA:=Lib.hid ha
   rw[<-ha] at hj ⊢
   have e2:=IntWalk.i64_in ((a:Int)+4) (by omega)
   clear hs1 ha
   by_cases hlt:a<q+s
   ·have hlt':(a:Int)<(q:Int)+(s:Int):=by omega
    go_wp2_with fail
    refine Hv.grow 8 (fun|2=>some (Hv.con (iv q))|5=>some (Hv.con (iv s))|_=>none) (fun _=>[]) (by kernel_rfl) (by kernel_rfl) ?_ ?_
    ·intro i m hm v wa wb hR hv
     split at hm <;> first|cases hm|skip
     all_goals first|exact Hv.row_st hR hv|exact Hv.con_st hR hv|exact Nown_st hR hv|exact Nparts_st hR hv
    ·change Hv.HW _ _ _ _ _ _ _ [0,1,2,3,4,5,6,7] _ _
     iterate 2 (refine Hv.pA ?_;(try simp only[pU]))
     refine Hv.noise (m:=_) (by rfl) (by rfl) (by rfl) (Hv.con_ex _) (fun wx hS hf=>?_) (fun v hv=>?_)
     ·unfold Hv.Gives
      go_simp
      refine(CH.out _).mono ?_;rintro e w' ⟨rfl,hb⟩;exact⟨_,rfl,hb,rfl,trivial⟩
     obtain rfl:=hv
     (try simp only[pU])
     iterate 2 ((first|refine Hv.pA ?_|refine Hv.pE (hv:=fun wx hS=>Se.xR (hr:=Li.Rd.of_blk ((hs.ext hS).hold (.blk g3 54 _) List.mem_cons_self))) (h:=?_));(try simp only[pU]))
     refine Hv.noise (m:=_) (by rfl) (by rfl) (by rfl) (Hv.con_ex _) (fun wx hS hf=>?_) (fun v hv=>?_)
     ·unfold Hv.Gives
      go_simp
      refine(CS.out _).mono ?_;rintro e w' ⟨rfl,hb⟩;exact⟨_,rfl,hb,rfl,trivial⟩
     obtain rfl:=hv
     (try simp only[pU])
     iterate 2 (refine Hv.pA ?_;(try simp only[pU]))
     refine Hv.done (fun wx hS _=>?_);replace hs:=hs.ext hS;clear hS;simp only[List.drop_succ_cons,List.drop_nil]
     go_wp2_with fail
     go_roundg (q+s+4-(j+1)*4)
     case measure=>have:=HS1.out;have:=HA.out;omega
     case rel=>exact⟨j+1,rfl,by have:=HS1.out;omega,by rw[HS1.out];simp,hs⟩
   ·have hlt':decide ((a:Int)<(q:Int)+(s:Int))=false:=by simp;omega
    have hn2:=HN.out j (by rw[<-HA.out];exact hj) (by rw[<-HA.out];omega)
    rw[<-HA.out] at hn2
    have HN2:=Lib.hid hn2
    clear hn2
    go_wp2_with fail
    refine Hv.grow 8 (fun|2=>some (Hv.con (iv q))|5=>some (Hv.con (iv s))|_=>none) (fun _=>[]) (by kernel_rfl) (by kernel_rfl) ?_ ?_
    ·intro i m hm v wa wb hR hv
     split at hm <;> first|cases hm|skip
     all_goals first|exact Hv.row_st hR hv|exact Hv.con_st hR hv|exact Nown_st hR hv|exact Nparts_st hR hv
    ·change Hv.HW _ _ _ _ _ _ _ [0,1,2,3,4,5,6,7] _ _
     iterate 2 (refine Hv.pA ?_;(try simp only[pU]))
     refine Hv.noise (m:=_) (by rfl) (by rfl) (by rfl) (Hv.con_ex _) (fun wx hS hf=>?_) (fun v hv=>?_)
     ·unfold Hv.Gives
      go_simp
      refine(CH.out _).mono ?_;rintro e w' ⟨rfl,hb⟩;exact⟨_,rfl,hb,rfl,trivial⟩
     obtain rfl:=hv
     (try simp only[pU])
     iterate 2 ((first|refine Hv.pA ?_|refine Hv.pE (hv:=fun wx hS=>Se.xR (hr:=Li.Rd.of_blk ((hs.ext hS).hold (.blk g3 54 _) List.mem_cons_self))) (h:=?_));(try simp only[pU]))
     refine Hv.noise (m:=_) (by rfl) (by rfl) (by rfl) (Hv.con_ex _) (fun wx hS hf=>?_) (fun v hv=>?_)
     ·unfold Hv.Gives
      go_simp
      refine(CS.out _).mono ?_;rintro e w' ⟨rfl,hb⟩;exact⟨_,rfl,hb,rfl,trivial⟩
     obtain rfl:=hv
     (try simp only[pU])
     iterate 2 (refine Hv.pA ?_;(try simp only[pU]))
     refine Hv.done (fun wx hS _=>?_);replace hs:=hs.ext hS;clear hS;simp only[List.drop_succ_cons,List.drop_nil]
     go_wp2_with fail
     go_ret;exact⟨by rw[<-HN2.out];rfl,hs.drop⟩
section
attribute [local go_sem] Bv.wrap_n8_of
theorem rLittle_st(hs:St w0 X L w)(v:BitVec 32)(n:Nat)(hn:n<=4) :
  Calls Tryz.prog 81 #[.int .u32 (n32 v),.int .i64 n] w fun e w'=>∃ r B c,e=.returned (.slice B n c)/\St w0 X (.own 1 r B n c ((numL v n).map v8)::L) w':=by
 obtain⟨m,hm⟩:∃ m,m=v.toNat:=⟨_,rfl⟩
 have hmv:n32 v=(m:Int):=by rw[hm];rfl
 have hml:m<4294967296:=by rw[hm];exact v.isLt
 have HV:=Lib.hid (show ∀ i,numL v i=numN i m by intro i;rw[hm];rfl)
 rw[hmv];clear hm hmv;replace hs:=hs.nil_own 1 none
 go_enter Tryz.func81,Tryz.ntmps81
 go_wp2_with fail
 go_loopg [0,5,6] n (fun gh s0 s5 s6 wr=>∃ (i q:Nat) (r:Option Nat) (B:Option Addr) (c':Nat),gh=n-i/\i<=n/\s6=.int .i64 i/\s5=.slice B i c'/\s0=.int .u32 (q:Int)/\q<4294967296/\Hid (q=m / 256 ^ i)/\St w0 X (.own 1 r B i c' ((numN i m).map v8)::L) wr)
 case atStart=>exact⟨0,m,none,none,0,rfl,by omega,rfl,rfl,rfl,hml,Lib.hid (by simp),hs⟩
 case round =>
  clear hs
  rename World=>w
  obtain⟨i,q,r,B,c',rfl,hi,rfl,rfl,rfl,hq,HQ,hs⟩:=hrel
  by_cases hlt:i<n
  ·have hlt':(i:Int)<(n:Int):=by omega
   have q1:(q:Int).tdiv 256=((q / 256:Nat):Int):=by rw[Int.tdiv_eq_ediv_of_nonneg (by omega)];omega
   have q2:(q:Int).tmod 256=((q%256:Nat):Int):=by rw[Int.tmod_eq_emod_of_nonneg (by omega)];omega
   have ST:Hid ((numN (i+1) m).map v8=(numN i m).map v8++[.int .u8 (n8 (BitVec.ofInt 8 ((q%256:Nat):Int)))]):=Lib.hid (by
    have e:BitVec.ofInt 8 ((q%256:Nat):Int)=BitVec.ofNat 8 (m / 256 ^ i):=by
     rw[<-HQ.out]
     apply BitVec.eq_of_toNat_eq
     rw[BitVec.toNat_ofInt,BitVec.toNat_ofNat];omega
    rw[numN_snoc,List.map_append,e];rfl)
   have HQ2:Hid (q / 256=m / 256 ^ (i+1)):=Lib.hid (by rw[HQ.out,Nat.div_div_eq_div_mul,Nat.pow_succ])
   go_wp2_with (first|((with_reducible refine Se.iL 16 ?_);(refine Se.toL rfl (Se.bsv (o:=⟨some 16,_,_,_,_,_⟩) hs rfl Tryz.underlying24 u8i rfl ([.int .u8 _]) (by rfl) (by rfl) (by decide) (by decide) (by simp[Value.oneCell']) ?_);clear hs;rintro w g16-hs))|((with_reducible refine Se.iL 17 ?_);(refine Se.toL rfl (Se.ap (o:=⟨some 17,_,_,_,_,_⟩) 1 hs rfl rfl rfl rfl (Reads.blk 0 rfl) Tryz.underlying24 u8i3 rfl (by decide) (by simp[Value.oneCell']) (rfl) (by omega) (by omega) ?_);clear hs;rintro w r' B' c'' hs;try simp only[pS] at hs)))
   go_roundg (n-(i+1))
   case measure=>omega
   case rel=>exact⟨i+1,q / 256,r',B',c'',rfl,by omega,by go_num,rfl,rfl,by omega,HQ2,by rw[ST.out];exact hs.drop⟩
  ·obtain rfl:i=n:=by omega
   go_wp2_with fail
   go_ret;rw[HV.out];exact⟨r,B,c',rfl,hs⟩
end
theorem rjoin_st(hs:St w0 X L w)(l:List Pt){S:Option Addr}{k cap:Nat}(hk:k=l.length)(hS:Reads L S (l.map Pt.v))(hp:∀ p∈l,Reads L p.A (p.bs.map v8)){bs:List (BitVec 8)}(hb:flat l=bs){q:Nat}(hq:q=bs.length)(hle:q<=70368744177664)(hkl:k<=1000) :
  Calls Tryz.prog 80 #[.slice S k cap] w fun e w'=>∃ r B c',e=.returned (.slice B q c')/\St w0 X (.own 1 r B q c' (bs.map v8)::L) w':=by
 have HK:=Lib.hid hk
 have HP:=Lib.hid hp
 subst hb hq
 obtain⟨F,hF⟩:∃ F:Nat->List (BitVec 8),F=fun i=>flat (l.take i):=⟨_,rfl⟩
 have F0:=Lib.hid (show F 0=[] by rw[hF];simp[flat])
 have FK:=Lib.hid (show F k=flat l by rw[hF,hk];simp)
 have FL:=Lib.hid (show ∀ i,(F i).length<=70368744177664 by intro i;rw[hF];exact Nat.le_trans (flat_le l i) hle)
 have FS:=Lib.hid (show ∀ i (h:i<l.length),F (i+1)=F i++l[i].bs by intro i h;rw[hF];exact flat_snoc l i h)
 clear hk hp hF hle;replace hs:=hs.nil_own 1 none
 go_enter Tryz.func80,Tryz.ntmps80
 go_wp2_with fail
 go_loopg [3,4] k (fun gh s3 s4 wr=>∃ (j:Nat) (r:Option Nat) (B:Option Addr) (c' m:Nat),gh=k-j/\j<=k/\s4=.int .i64 j/\s3=.slice B m c'/\Hid (m=(F j).length)/\St w0 X (.own 1 r B m c' ((F j).map v8)::L) wr)
 case atStart=>exact⟨0,none,none,0,0,rfl,by omega,rfl,rfl,Lib.hid (by rw[F0.out];rfl),by rw[F0.out];exact hs⟩
 case round =>
  clear hs
  rename World=>w
  obtain⟨j,r,B,c',m,rfl,hj,rfl,rfl,HM,hs⟩:=hrel
  by_cases hlt:j<k
  ·have hlt':(j:Int)<(k:Int):=by omega
   have hil:j<l.length:=by have:=HK.out;omega
   obtain⟨p,hpe⟩:∃ p,p=l[j]:=⟨_,rfl⟩
   have hb:(l.map Pt.v)[j]? = some (.slice p.A p.bs.length p.c):=by rw[hpe];simp[hil];rfl
   have hrp:=Lib.hid (HP.out p (by rw[hpe];exact List.getElem_mem hil))
   have FS1:=FS.out j hil
   have FL1:=FL.out (j+1)
   rw[<-hpe] at FS1;rw[FS1,List.length_append,<-HM.out] at FL1
   have FM:Hid (m+p.bs.length=(F (j+1)).length):=Lib.hid (by rw[FS1,List.length_append,HM.out])
   obtain⟨g,off,rfl⟩:∃ g off,S=some ⟨g,off,none⟩:=by
    obtain⟨g,off,h,_⟩:=(hS w (fun a ha=>hs.hold a (List.mem_cons_of_mem _ ha))).cells (by intro e;rw[e] at hb;simp at hb)
    exact⟨g,off,h⟩
   have HB:=Lib.hid hb
   have FS1:=Lib.hid FS1
   clear hb hpe hil
   go_wp2_with (first|((with_reducible refine Se.iL 15 ?_);(refine Se.Ld hs rfl rfl ((hS.cons _).cell j HB.out) ?_))|((with_reducible refine Se.iL 16 ?_);(refine Se.toL rfl (Se.ap (o:=⟨some 16,_,_,_,_,_⟩) 0 hs rfl rfl rfl rfl (hrp.out.cons _) Tryz.underlying24 u8i3 rfl (by decide) (v8_one _) (by rw[List.length_map,Nat.mul_one]) (by omega) (by omega) ?_);clear hs;rintro w r' B' c'' hs;try simp only[pS] at hs)))
   go_roundg (k-(j+1))
   case measure=>omega
   case rel=>exact⟨j+1,r',B',c'',m+p.bs.length,rfl,by omega,by go_num,rfl,FM,by rw[FS1.out,List.map_append];exact hs⟩
  ·obtain rfl:j=k:=by omega
   go_wp2_with fail
   go_ret;rw[FK.out] at hs;rw[<-FK.out,<-HM.out];exact⟨r,B,c',rfl,by rw[FK.out];exact hs⟩
end Pd
end Go.Proofs.YtjnllcnknjlmmaaGreat
namespace Go.Proofs.YtjnllcnknjlmmaaGreat
open Go Go.RowKit
namespace Pd
open Se (St At Reads Cell)
open Li (v8 v8_one Rd)
open Bv (n8 n32)
variable {w0 w:World} {X:List Nat} {L:List At}
attribute [local irreducible] Calls
attribute [local go_sem] Gd.pk_or
end Pd
end Go.Proofs.YtjnllcnknjlmmaaGreat
namespace Go.Proofs.YtjnllcnknjlmmaaGreat
open Go Go.RowKit
namespace Pd
open Se (St At Reads Cell)
open Li (v8 Rd Blk)
open Bv (n8 n16 n32)
variable {w0 w:World} {X:List Nat} {L:List At}
attribute [local irreducible] Calls
def eqH(h q:Hd):Bool :=
 n8 h.k==n8 q.k&&h.la==q.la&&h.su==q.su&&n16 h.id==n16 q.id&&n16 h.tg==n16 q.tg&&n32 h.of==n32 q.of&&n32 h.ln==n32 q.ln&&n8 h.al==n8 q.al&&n8 h.dg==n8 q.dg&&n32 h.mx==n32 q.mx&&n16 h.st==n16 q.st&&n32 h.nf==n32 q.nf
theorem eqH_iff(h q:Hd):eqH h q=decide (h=q):=by
 obtain⟨a0,a1,a2,a3,a4,a5,a6,a7,a8,a9,a10,a11⟩:=h
 obtain⟨b0,b1,b2,b3,b4,b5,b6,b7,b8,b9,b10,b11⟩:=q
 rw[Bool.eq_iff_iff];simp only[eqH,Bool.and_eq_true,beq_iff_eq,Bv.n8_eq_iff,Bv.n16_eq_iff,Bv.n32_eq_iff,decide_eq_true_eq,Hd.mk.injEq];simp only[and_assoc]
theorem zPdu:∃ Z,(Tryz.prog.info? 65).bind (fun i=>i.zero.map (·.cells.toList))=some Z/\Z.length=14:=⟨pc {} none 0 0 none 0 0,by kernel_rfl,rfl⟩
theorem equalP_st(hs:St w0 X L w)(h q:Hd){EA DA EB DB:Option Addr}{en ec dn dc em ed dm dd:Nat}{es fs da db:List (BitVec 8)}(he:en=es.length)(hf:em=fs.length)(hd:dn=da.length)(hb:dm=db.length)(hE:Reads L EA (es.map v8))(hF:Reads L EB (fs.map v8))(hD:Reads L DA (da.map v8))(hG:Reads L DB (db.map v8))(le:en<=70368744177664)(ld:dn<=70368744177664){r:Bool}(hr:(es==fs&&da==db&&eqH h q)=r) :
  Calls Tryz.prog 190 #[.agg (pc h EA en ec DA dn dc).toArray,.agg (pc q EB em ed DB dm dd).toArray] w fun e w'=>e=.returned (.bool r)/\St w0 X L w':=by
 obtain⟨b1,hb1⟩:∃ b,(es==fs)=b:=⟨_,rfl⟩
 obtain⟨b2,hb2⟩:∃ b,(da==db)=b:=⟨_,rfl⟩
 have C1:=Lib.hid (fun(L':List At) (w:World) (hs:St w0 X (L'++L) w)=>equal_st (c:=ec) (d:=ed) hs he hf (hE.app L') (hF.app L') le hb1)
 have C2:=Lib.hid (fun(L':List At) (w:World) (hs:St w0 X (L'++L) w)=>equal_st (c:=dc) (d:=dd) hs hd hb (hD.app L') (hG.app L') ld hb2)
 rw[hb1,hb2] at hr
 have HR:=Lib.hid hr
 obtain⟨Z,hZ,hZL⟩:=zPdu
 have HZ:=Lib.hid hZ
 have ZL:=Lib.hid hZL
 clear hb1 hb2 he hf hd hb hE hF hD hG hr hZ hZL
 cases b1 with
 | false =>
  obtain rfl:r=false:=HR.out.symm
  unfold pc at *
  go_enter Tryz.func190,Tryz.ntmps190
  go_wp2_with (first|((with_reducible refine Se.iL 8 ?_);(refine Se.Ld hs rfl rfl (Cell.blk 1 rfl rfl) ?_))|((with_reducible refine Se.iL 10 ?_);(refine Se.Ld hs rfl rfl (Cell.blk 0 rfl rfl) ?_))|((first|with_reducible refine Se.ab hs ?_|with_reducible refine Se.abc hs ?_);clear hs;(first|((fail_if_success (have _q:=g2));generalize w.heap.size=g2;intro w hs)|(generalize w.heap.size=g3;intro w hs)))|(go_at_call 220;refine Calls.mono (C1.out [_,_] _ hs) ?_;clear hs;rintro e w ⟨rfl,hs⟩))
  go_ret;exact⟨rfl,hs.drop.drop⟩
 | true =>
  cases b2 with
  | false =>
   obtain rfl:r=false:=HR.out.symm
   unfold pc at *
   go_enter Tryz.func190,Tryz.ntmps190
   go_wp2_with (first|((with_reducible refine Se.iL 8 ?_);(refine Se.Ld hs rfl rfl (Cell.blk 1 rfl rfl) ?_))|((with_reducible refine Se.iL 10 ?_);(refine Se.Ld hs rfl rfl (Cell.blk 0 rfl rfl) ?_))|((with_reducible refine Se.iL 15 ?_);(refine Se.Ld hs rfl rfl (Cell.blk 1 rfl rfl) ?_))|((with_reducible refine Se.iL 17 ?_);(refine Se.Ld hs rfl rfl (Cell.blk 0 rfl rfl) ?_))|((first|with_reducible refine Se.ab hs ?_|with_reducible refine Se.abc hs ?_);clear hs;(first|((fail_if_success (have _q:=g2));generalize w.heap.size=g2;intro w hs)|(generalize w.heap.size=g3;intro w hs)))|(go_at_call 220;refine Calls.mono (C1.out [_,_] _ hs) ?_;clear hs;rintro e w ⟨rfl,hs⟩)|(go_at_call 220;refine Calls.mono (C2.out [_,_] _ hs) ?_;clear hs;rintro e w ⟨rfl,hs⟩))
   go_ret;exact⟨rfl,hs.drop.drop⟩
  | true =>
   have HQ:Hid (eqH h q=r):=Lib.hid (by simpa using HR.out)
   clear HR
   go_enter Tryz.func190,Tryz.ntmps190
   go_upto_region 3 with (first|((with_reducible refine Se.iL 8 ?_);(refine Se.Ld hs rfl rfl (Cell.blk 1 rfl rfl) ?_))|((with_reducible refine Se.iL 10 ?_);(refine Se.Ld hs rfl rfl (Cell.blk 0 rfl rfl) ?_))|((with_reducible refine Se.iL 15 ?_);(refine Se.Ld hs rfl rfl (Cell.blk 1 rfl rfl) ?_))|((with_reducible refine Se.iL 17 ?_);(refine Se.Ld hs rfl rfl (Cell.blk 0 rfl rfl) ?_))|((first|with_reducible refine Se.ab hs ?_|with_reducible refine Se.abc hs ?_);clear hs;(first|((fail_if_success (have _q:=g2));generalize w.heap.size=g2;intro w hs)|(generalize w.heap.size=g3;intro w hs)))|(go_at_call 220;refine Calls.mono (C1.out [_,_] _ hs) ?_;clear hs;rintro e w ⟨rfl,hs⟩)|(go_at_call 220;refine Calls.mono (C2.out [_,_] _ hs) ?_;clear hs;rintro e w ⟨rfl,hs⟩))
   go_cut [5,6] (fun s5 s6 wx=>∃ g5 g6:Nat,s5=.pointer (some ⟨g5,0,none⟩)/\s6=.pointer (some ⟨g6,0,none⟩)/\St w0 X (.blk g5 65 (pc h EA en ec DA dn dc)::.blk g6 65 (pc q EB em ed DB dm dd)::.blk g3 65 (pc q EB em ed DB dm dd)::.blk g2 65 (pc h EA en ec DA dn dc)::L) wx)
   case first =>
    refine Or.region 6 (fun wx=>Li.Blk wx g2 (pc h EA en ec DA dn dc) 65/\Li.Blk wx g3 (pc q EB em ed DB dm dd) 65) (fun|2=>true|3=>true|4=>true|5=>true|_=>false) (by kernel_rfl) (by decide +kernel) (⟨hs.drew.hold (.blk g2 65 (pc h EA en ec DA dn dc)) (by simp[pc]),hs.drew.hold (.blk g3 65 (pc q EB em ed DB dm dd)) (by simp[pc])⟩) ?_;replace hs:=hs.drew;generalize w.drew=w at hs ⊢;change Or.AW _ _ _ _ _ 6 [0,1,2,3,4,5] _ _;refine Or.pE 0 (v:=.agg (pc h EA en ec DA dn dc).toArray) (hv:=fun wx hS=>Se.xla rfl rfl (Li.Rd.of_blk hS.1) (by kernel_rfl) (by kernel_rfl)) (h:=?_);(try simp only[pU]);change Or.AW _ _ _ _ _ 5 [1,2,3,4,5] _ _;refine Or.pE 1 (v:=.agg (pc q EB em ed DB dm dd).toArray) (hv:=fun wx hS=>Se.xla rfl rfl (Li.Rd.of_blk hS.2) (by kernel_rfl) (by kernel_rfl)) (h:=?_);(try simp only[pU]);change Or.AW _ _ _ _ _ 4 [2,3,4,5] _ _;refine Or.two 2 3 (by decide +kernel) (by decide +kernel) (by rfl) (by rfl) (by rfl) (by rfl) ?_ ?_
    ·skip
     refine Se.al hs rfl HZ.out ?_;clear hs;rintro w g5-hs;refine⟨⟨hs.hold (.blk g2 65 (pc h EA en ec DA dn dc)) (by simp),hs.hold (.blk g3 65 (pc q EB em ed DB dm dd)) (by simp)⟩,?_⟩;(try simp only[pU]);change Or.AW _ _ _ _ _ 3 [3,4,5] _ _;refine Or.one 3 (by decide +kernel) (by decide +kernel) (by rfl) (by rfl) ?_;refine Se.al hs rfl HZ.out ?_;clear hs;rintro w g6-hs;refine⟨⟨hs.hold (.blk g2 65 (pc h EA en ec DA dn dc)) (by simp),hs.hold (.blk g3 65 (pc q EB em ed DB dm dd)) (by simp)⟩,?_⟩;(try simp only[pU]);change Or.AW _ _ _ _ _ 2 [4,5] _ _;refine Or.one 4 (by decide +kernel) (by decide +kernel) (by rfl) (by rfl) ?_;refine Se.sow 1 (vs:=(pc h EA en ec DA dn dc)) hs rfl rfl rfl rfl (pc_one _ _ _ _ _ _ _) (by kernel_rfl) (by rw[ZL.out];rfl) ?_;clear hs;intro w hs;simp only[List.set_cons_zero,List.set_cons_succ] at hs;refine⟨⟨hs.hold (.blk g2 65 (pc h EA en ec DA dn dc)) (by simp),hs.hold (.blk g3 65 (pc q EB em ed DB dm dd)) (by simp)⟩,?_⟩;(try simp only[pU]);change Or.AW _ _ _ _ _ 1 [5] _ _;refine Or.one 5 (by decide +kernel) (by decide +kernel) (by rfl) (by rfl) ?_;refine Se.sow 0 (vs:=(pc q EB em ed DB dm dd)) hs rfl rfl rfl rfl (pc_one _ _ _ _ _ _ _) (by kernel_rfl) (by rw[ZL.out];rfl) ?_;clear hs;intro w hs;simp only[List.set_cons_zero,List.set_cons_succ] at hs;refine⟨⟨hs.hold (.blk g2 65 (pc h EA en ec DA dn dc)) (by simp),hs.hold (.blk g3 65 (pc q EB em ed DB dm dd)) (by simp)⟩,?_⟩;(try simp only[pU]);change Or.AW _ _ _ _ _ 0 [] _ _;refine Or.done ?_;simp only[List.drop_succ_cons,List.drop_zero]
     go_wp2_with fail
     go_meet;replace hs:=hs.pull 1 rfl;exact⟨g5,g6,rfl,rfl,hs⟩
    ·skip
     refine Se.al hs rfl HZ.out ?_;clear hs;rintro w g6-hs;refine⟨⟨hs.hold (.blk g2 65 (pc h EA en ec DA dn dc)) (by simp),hs.hold (.blk g3 65 (pc q EB em ed DB dm dd)) (by simp)⟩,?_⟩;(try simp only[pU]);change Or.AW _ _ _ _ _ 3 [2,4,5] _ _;refine Or.one 2 (by decide +kernel) (by decide +kernel) (by rfl) (by rfl) ?_;refine Se.al hs rfl HZ.out ?_;clear hs;rintro w g5-hs;refine⟨⟨hs.hold (.blk g2 65 (pc h EA en ec DA dn dc)) (by simp),hs.hold (.blk g3 65 (pc q EB em ed DB dm dd)) (by simp)⟩,?_⟩;(try simp only[pU]);change Or.AW _ _ _ _ _ 2 [4,5] _ _;refine Or.one 4 (by decide +kernel) (by decide +kernel) (by rfl) (by rfl) ?_;refine Se.sow 0 (vs:=(pc h EA en ec DA dn dc)) hs rfl rfl rfl rfl (pc_one _ _ _ _ _ _ _) (by kernel_rfl) (by rw[ZL.out];rfl) ?_;clear hs;intro w hs;simp only[List.set_cons_zero,List.set_cons_succ] at hs;refine⟨⟨hs.hold (.blk g2 65 (pc h EA en ec DA dn dc)) (by simp),hs.hold (.blk g3 65 (pc q EB em ed DB dm dd)) (by simp)⟩,?_⟩;(try simp only[pU]);change Or.AW _ _ _ _ _ 1 [5] _ _;refine Or.one 5 (by decide +kernel) (by decide +kernel) (by rfl) (by rfl) ?_;refine Se.sow 1 (vs:=(pc q EB em ed DB dm dd)) hs rfl rfl rfl rfl (pc_one _ _ _ _ _ _ _) (by kernel_rfl) (by rw[ZL.out];rfl) ?_;clear hs;intro w hs;simp only[List.set_cons_zero,List.set_cons_succ] at hs;refine⟨⟨hs.hold (.blk g2 65 (pc h EA en ec DA dn dc)) (by simp),hs.hold (.blk g3 65 (pc q EB em ed DB dm dd)) (by simp)⟩,?_⟩;(try simp only[pU]);change Or.AW _ _ _ _ _ 0 [] _ _;refine Or.done ?_;simp only[List.drop_succ_cons,List.drop_zero]
     go_wp2_with fail
     go_meet;exact⟨g5,g6,rfl,rfl,hs⟩
   case rest =>
    obtain⟨g5,g6,rfl,rfl,hs⟩:=hcut
    have B5:=hs.hold (.blk g5 65 (pc h EA en ec DA dn dc)) (by simp)
    have B6:=hs.hold (.blk g6 65 (pc q EB em ed DB dm dd)) (by simp)
    have a0:wc.cell? ⟨g5,0,none⟩=some (.int .u8 (n8 h.k)):=by rw[B5.cell];rfl
    have b0:wc.cell? ⟨g6,0,none⟩=some (.int .u8 (n8 q.k)):=by rw[B6.cell];rfl
    have a1:wc.cell? ⟨g5,1,none⟩=some (.bool (h.la)):=by rw[B5.cell];rfl
    have b1:wc.cell? ⟨g6,1,none⟩=some (.bool (q.la)):=by rw[B6.cell];rfl
    have a2:wc.cell? ⟨g5,2,none⟩=some (.bool (h.su)):=by rw[B5.cell];rfl
    have b2:wc.cell? ⟨g6,2,none⟩=some (.bool (q.su)):=by rw[B6.cell];rfl
    have a4:wc.cell? ⟨g5,4,none⟩=some (.int .u16 (n16 h.id)):=by rw[B5.cell];rfl
    have b4:wc.cell? ⟨g6,4,none⟩=some (.int .u16 (n16 q.id)):=by rw[B6.cell];rfl
    have a5:wc.cell? ⟨g5,5,none⟩=some (.int .u16 (n16 h.tg)):=by rw[B5.cell];rfl
    have b5:wc.cell? ⟨g6,5,none⟩=some (.int .u16 (n16 q.tg)):=by rw[B6.cell];rfl
    have a6:wc.cell? ⟨g5,6,none⟩=some (.int .u32 (n32 h.of)):=by rw[B5.cell];rfl
    have b6:wc.cell? ⟨g6,6,none⟩=some (.int .u32 (n32 q.of)):=by rw[B6.cell];rfl
    have a7:wc.cell? ⟨g5,7,none⟩=some (.int .u32 (n32 h.ln)):=by rw[B5.cell];rfl
    have b7:wc.cell? ⟨g6,7,none⟩=some (.int .u32 (n32 q.ln)):=by rw[B6.cell];rfl
    have a8:wc.cell? ⟨g5,8,none⟩=some (.int .u8 (n8 h.al)):=by rw[B5.cell];rfl
    have b8:wc.cell? ⟨g6,8,none⟩=some (.int .u8 (n8 q.al)):=by rw[B6.cell];rfl
    have a9:wc.cell? ⟨g5,9,none⟩=some (.int .u8 (n8 h.dg)):=by rw[B5.cell];rfl
    have b9:wc.cell? ⟨g6,9,none⟩=some (.int .u8 (n8 q.dg)):=by rw[B6.cell];rfl
    have a10:wc.cell? ⟨g5,10,none⟩=some (.int .u32 (n32 h.mx)):=by rw[B5.cell];rfl
    have b10:wc.cell? ⟨g6,10,none⟩=some (.int .u32 (n32 q.mx)):=by rw[B6.cell];rfl
    have a11:wc.cell? ⟨g5,11,none⟩=some (.int .u16 (n16 h.st)):=by rw[B5.cell];rfl
    have b11:wc.cell? ⟨g6,11,none⟩=some (.int .u16 (n16 q.st)):=by rw[B6.cell];rfl
    have a12:wc.cell? ⟨g5,12,none⟩=some (.int .u32 (n32 h.nf)):=by rw[B5.cell];rfl
    have b12:wc.cell? ⟨g6,12,none⟩=some (.int .u32 (n32 q.nf)):=by rw[B6.cell];rfl
    have HS:=Lib.hid (show St w0 X L wc from hs.drop.drop.drop.drop)
    unfold eqH at HQ;clear B5 B6 hs C1 C2 HZ ZL;generalize n8 h.k=x0 at a0 HQ;generalize n8 q.k=y0 at b0 HQ;generalize h.la=x1 at a1 HQ;generalize q.la=y1 at b1 HQ;generalize h.su=x2 at a2 HQ;generalize q.su=y2 at b2 HQ;generalize n16 h.id=x4 at a4 HQ;generalize n16 q.id=y4 at b4 HQ;generalize n16 h.tg=x5 at a5 HQ;generalize n16 q.tg=y5 at b5 HQ;generalize n32 h.of=x6 at a6 HQ;generalize n32 q.of=y6 at b6 HQ;generalize n32 h.ln=x7 at a7 HQ;generalize n32 q.ln=y7 at b7 HQ;generalize n8 h.al=x8 at a8 HQ;generalize n8 q.al=y8 at b8 HQ;generalize n8 h.dg=x9 at a9 HQ;generalize n8 q.dg=y9 at b9 HQ;generalize n32 h.mx=x10 at a10 HQ;generalize n32 q.mx=y10 at b10 HQ;generalize n16 h.st=x11 at a11 HQ;generalize n16 q.st=y11 at b11 HQ;generalize n32 h.nf=x12 at a12 HQ;generalize n32 q.nf=y12 at b12 HQ
    go_wp2
    all_goals go_ret
    all_goals (refine⟨?_,HS.out⟩;rw[<-HQ.out];clear HQ HS a0 b0 a1 b1 a2 b2 a4 b4 a5 b5 a6 b6 a7 b7 a8 b8 a9 b9 a10 b10 a11 b11 a12 b12;congr 2;simp_all)
end Pd
end Go.Proofs.YtjnllcnknjlmmaaGreat
