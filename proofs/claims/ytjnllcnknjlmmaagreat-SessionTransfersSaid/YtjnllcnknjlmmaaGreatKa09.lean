/- Layer 41. -/
import Derived.Test.YtjnllcnknjlmmaaGreatKa07
set_option linter.unusedSimpArgs false
set_option linter.unusedVariables false
set_option maxRecDepth 100000
set_option maxHeartbeats 4000000
namespace Go.Proofs.YtjnllcnknjlmmaaGreat
open Go Go.RowKit
namespace Pd
open Se (St At Reads Cell)
open Li (v8 Rd)
open Bv (n8 n16 n32)
variable {w0 w wx:World} {X:List Nat} {L:List At}
attribute [local irreducible] Calls
theorem Nzero{W0:World}(hS:Hv.Ext W0 wx)(n:Nat){o:Oper}{a:Act}{x y:Operand}(ho:o.op=.makeSlice 24 x y)(hx:a.eval x=.int .i64 (n:Int))(hy:a.eval y=.int .i64 (n:Int))(hn:n<=1000) :
  Hv.Gives Tryz.prog o a wx fun v w'=>Hv.Ext wx w'/\(Nown W0 n ((zs n).map v8)).vv v/\(Nown W0 n ((zs n).map v8)).ww v w':=by
 have hs:St wx [] [] wx:=St.start wx (by simp) rfl
 refine Se.mk hs ho Tryz.underlying24 u8i3 rfl n n hx hy rfl rfl (Nat.le_refl _) (by omega) (by omega) ?_;intro w' g _ h
 have e:∀ n:Nat,(List.replicate n ((Value.int .u8 0).cells.toList)).flatten=(zs n).map v8:=by
  intro n
  induction n with
  | zero=>rfl
  | succ n ih=>rw[List.replicate_succ,List.flatten_cons,ih];rfl
 rw[e] at h
 have k:=h.blk_own 1 n n (by simp) (Nat.le_refl _) (by unfold maxLen;omega)
 rw[List.take_of_length_le (by simp)] at k;exact Nown_new hS k
theorem flat5(a b c d e:Pt):flat [a,b,c,d,e]=a.bs++b.bs++c.bs++d.bs++e.bs:=by simp[flat]
theorem little_any(w:World)(v:BitVec 32)(n:Nat)(hn:n<=4):Calls Tryz.prog 81 #[.int .u32 (n32 v),.int .i64 n] w fun e w'=>∃ r B c,e=.returned (.slice B n c)/\St w [] [.own 1 r B n c ((numL v n).map v8)] w' :=
 rLittle_st (St.start w (by simp) rfl) v n hn
theorem join_np(w:World){b k:Nat}{bs:List (BitVec 8)}(h:(Nparts k bs).ww (.slice (some ⟨b,0,none⟩) k k) w){q:Nat}(hq:q=bs.length)(hm:q<=70368744177664)(hkl:k<=1000) :
  Calls Tryz.prog 80 #[.slice (some ⟨b,0,none⟩) k k] w fun e w'=>∃ r B c',e=.returned (.slice B q c')/\St w [] [.own 1 r B q c' (bs.map v8)] w':=by
 obtain⟨l,h1,h2,h3,h4⟩:=h b rfl
 refine(rjoin_st (start_rd w l h2 h3) l h1.symm (Reads.rd 0 rfl) (fun p hp=>Reads.rdm (List.mem_cons_of_mem _ (List.mem_map.2 ⟨p,hp,rfl⟩))) h4 hq hm hkl).mono ?_;rintro e w' ⟨r,B,c,h1,h2⟩;exact⟨r,B,c,h1,one_of h2⟩
section
attribute [local go_sem] Bv.wrap_n32_of Bv.of32_n16
theorem rspecial_any(w:World)(p:PDU)(hv:valid p=true){EA DA:Option Addr}{en ec dn dc:Nat}(hE:Rd w EA (p.en.map v8))(he:en=p.en.length)(hd:dn=p.da.length){q:Nat}(hq:q=(special p).length) :
  Calls Tryz.prog 82 #[.agg (pc p.h EA en ec DA dn dc).toArray] w fun e w'=>∃ A c,e=.returned (.slice A q c)/\Rd w' A ((special p).map v8)/\Below w.heap.size w w':=by
 obtain⟨w1,hw1⟩:∃ w1,w1=w:=⟨_,rfl⟩
 have hs:St w1 [] [.rd EA (p.en.map v8)] w:=by rw[hw1];exact rd1 hE
 have HW:Hid (∀ w',Below w1.heap.size w1 w'->Below w.heap.size w w'):=Lib.hid (by rw[hw1];exact fun _ h=>h)
 clear hw1
 have hE:Reads [.rd EA (p.en.map v8)] EA (p.en.map v8):=Reads.rd 0 rfl
 obtain⟨LL,hLL⟩:∃ LL,LL=[At.rd EA (p.en.map v8)]:=⟨_,rfl⟩
 rw[<-hLL] at hs hE;clear hLL
 obtain⟨k,hk⟩:∃ k,k=p.h.k.toNat:=⟨_,rfl⟩
 have hkl:k<256:=by rw[hk];exact p.h.k.isLt
 have wk:IntKind.i64.wrap (k:Int)=k:=IntWalk.i64_in _ (by omega)
 obtain⟨PL,hP⟩:∃ PL,PL=pc p.h EA en ec DA dn dc:=⟨_,rfl⟩
 have PLL:=Lib.hid (show PL.length=14 by rw[hP];rfl)
 have P0:=Lib.hid (show PL[0]? = some (.int .u8 (k:Int)) by rw[hP,hk];rfl)
 have P1:=Lib.hid (show PL[1]? = some (.bool p.h.la) by rw[hP];rfl)
 have P2:=Lib.hid (show PL[2]? = some (.bool p.h.su) by rw[hP];rfl)
 have P3:=Lib.hid (show PL[3]? = some (.slice EA en ec) by rw[hP];rfl)
 have P4:=Lib.hid (show PL[4]? = some (.int .u16 (n16 p.h.id)) by rw[hP];rfl)
 have P5:=Lib.hid (show PL[5]? = some (.int .u16 (n16 p.h.tg)) by rw[hP];rfl)
 have P6:=Lib.hid (show PL[6]? = some (.int .u32 (n32 p.h.of)) by rw[hP];rfl)
 have P7:=Lib.hid (show PL[7]? = some (.int .u32 (n32 p.h.ln)) by rw[hP];rfl)
 have P8:=Lib.hid (show PL[8]? = some (.int .u8 (n8 p.h.al)) by rw[hP];rfl)
 have P9:=Lib.hid (show PL[9]? = some (.int .u8 (n8 p.h.dg)) by rw[hP];rfl)
 have P10:=Lib.hid (show PL[10]? = some (.int .u32 (n32 p.h.mx)) by rw[hP];rfl)
 have P11:=Lib.hid (show PL[11]? = some (.int .u16 (n16 p.h.st)) by rw[hP];rfl)
 have P12:=Lib.hid (show PL[12]? = some (.int .u32 (n32 p.h.nf)) by rw[hP];rfl)
 have P13:=Lib.hid (show PL[13]? = some (.slice DA dn dc) by rw[hP];rfl)
 have hks:(k=0\/k=1)\/(k=2\/k=3)\/(k=4\/k=5)\/k=9\/(k=6\/k=7):=by
  have h1:hdr k≠0:=by
   have:=hv
   unfold valid at this;simp only[Bool.and_eq_true,decide_eq_true_eq] at this;rw[hk];exact this.1.1.1
  unfold hdr at h1
  split at h1 <;> first|omega|(exact absurd rfl h1)
 have hel:(k=4\/k=5)->p.en=special p:=by
  intro h;unfold special;rw[<-hk];rcases h with h|h <;> rw[h] <;> rfl
 have hz:(k=0\/k=1)->special p=[0#8,0#8,p.h.al,p.h.dg]++numL p.h.mx 4++zs 112:=by
  intro h;unfold special;rw[<-hk];rcases h with h|h <;> rw[h] <;> rfl
 have h2:(k=2\/k=3)->special p=numL (p.h.st.setWidth 32) 2++numL p.h.nf 4++zs 10:=by
  intro h;unfold special;rw[<-hk];rcases h with h|h <;> rw[h] <;> rfl
 have h9:k=9->special p=numL (p.h.id.setWidth 32) 2++numL (p.h.tg.setWidth 32) 2++numL p.h.of 4++numL p.h.ln 4++zs 4:=by
  intro h;unfold special;rw[<-hk,h];rfl
 have h6:(k=6\/k=7)->special p=numL (p.h.id.setWidth 32) 2++numL (p.h.tg.setWidth 32) 2++numL p.h.of 4++numL (BitVec.ofNat 32 dn) 4++zs 4:=by
  intro h;unfold special;rw[<-hk,hd];rcases h with h|h <;> rw[h] <;> rfl
 obtain⟨sp,hsp⟩:∃ sp,special p=sp:=⟨_,rfl⟩
 rw[hsp] at hz hel h2 h9 h6 hq
 have HE:=Lib.hid hE
 have HQ:=Lib.hid hq
 have HEN:=Lib.hid he
 rw[<-hP,hsp]
 have H0:=Lib.hid hz
 have HL:=Lib.hid hel
 have H2:=Lib.hid h2
 have H9:=Lib.hid h9
 have H6:=Lib.hid h6
 clear hP hE he hd hq hk hkl hz hel h2 h9 h6 hsp hv
 rcases hks with h01|h23|h45|h9|h67
 ·have EQ:=Lib.hid (H0.out h01)
  clear H0 HL H2 H9 H6
  rcases h01 with rfl|rfl
  all_goals
   go_enter Tryz.func82,Tryz.ntmps82
   go_upto_region 4 with (first|((with_reducible refine Se.iL 4 ?_);(refine Se.Ld hs rfl rfl (Cell.blk 0 rfl P0.out) ?_))|((first|with_reducible refine Se.ab hs ?_|with_reducible refine Se.abc hs ?_);clear hs;(first|(generalize w.heap.size=g1;intro w hs))))
   refine Hv.grow 12 (fun|4=>some (Hv.row [v8 0#8,v8 0#8,v8 p.h.al,v8 p.h.dg] 5)|7=>some (Nown w 4 ((numL p.h.mx 4).map v8))|8=>some (Nown w 112 ((zs 112).map v8))|9=>some (Nparts 3 sp)|10=>some (Nown w q (sp.map v8))|_=>none) (fun|9=>[[4,9],[7,9],[8,9]]|10=>[[9,10]]|_=>[]) (by kernel_rfl) (by kernel_rfl) ?_ ?_
   ·intro i m hm v wa wb hR hv
    split at hm <;> first|cases hm|skip
    all_goals first|exact Hv.row_st hR hv|exact Hv.con_st hR hv|exact Nown_st hR hv|exact Nparts_st hR hv
   ·change Hv.HW _ _ _ _ _ _ _ [0,1,2,3,4,5,6,7,8,9,10,11] _ _
    iterate 4 ((first|refine Hv.pA ?_|refine Hv.pE (hv:=fun wx hS=>Se.xL (hc:=(by rw[((hs.ext hS).hold (.blk g1 65 PL) (by simp)).cell];first|exact P8.out|exact P9.out|exact P10.out))) (h:=?_));(try simp only[pU]))
    refine Hv.noise (m:=_) (by rfl) (by rfl) (by rfl) (Hv.row_ex _ _) (fun wx hS hf=>?_) (fun v hv=>?_)
    ·unfold Hv.Gives
     go_simp
     exact Hv.row_new wx [v8 0#8,v8 0#8,v8 p.h.al,v8 p.h.dg] 5
    obtain⟨b0,rfl⟩:=hv
    (try simp only[pU])
    iterate 2 ((first|refine Hv.pA ?_|refine Hv.pE (hv:=fun wx hS=>Se.xL (hc:=(by rw[((hs.ext hS).hold (.blk g1 65 PL) (by simp)).cell];first|exact P8.out|exact P9.out|exact P10.out))) (h:=?_));(try simp only[pU]))
    refine Hv.noise (m:=_) (by rfl) (by rfl) (by rfl) (Nown_ex _ _ _) (fun wx hS hf=>?_) (fun v hv=>?_)
    ·refine Se.gcall (f:=81) (args:=#[.int .u32 (n32 p.h.mx),.int .i64 4]) ?_ ?_
     ·go_simp
     refine Calls.mono (little_any wx p.h.mx 4 (by omega)) ?_;rintro e w' ⟨r,B,c,rfl,hn⟩;exact⟨_,rfl,Nown_new hS hn⟩
    obtain⟨A1,c1,rfl⟩:=hv
    (try simp only[pU]);refine Hv.noise (m:=_) (by rfl) (by rfl) (by rfl) (Nown_ex _ _ _) (fun wx hS hf=>?_) (fun v hv=>?_)
    ·exact Nzero hS 112 rfl rfl rfl (by decide)
    obtain⟨A2,c2,rfl⟩:=hv
    (try simp only[pU]);refine Hv.noise (m:=_) (by rfl) (by rfl) (by rfl) (Nparts_ex _ _) (fun wx hS hf=>?_) (fun v hv=>?_)
    ·have f0:=hf _ (List.mem_cons_of_mem _ (List.mem_cons_of_mem _ (List.mem_cons_self))) ⟨[4,9],by simp,rfl⟩
     have f1:=hf _ (List.mem_cons_of_mem _ (List.mem_cons_self)) ⟨[7,9],by simp,rfl⟩
     have f2:=hf _ (List.mem_cons_self) ⟨[8,9],by simp,rfl⟩
     exact Nparts_bs wx ([⟨some ⟨b0,0,none⟩,4,[0#8,0#8,p.h.al,p.h.dg]⟩,⟨A1,c1,numL p.h.mx 4⟩,⟨A2,c2,zs 112⟩]) rfl (by rfl) (by rfl) (by decide) (by decide) (by simp only[List.forall_mem_cons,List.not_mem_nil,false_imp_iff,implies_true,and_true];exact⟨row_rd f0,Nown_rd f1,Nown_rd f2⟩) (by rw[flat3];exact(EQ.out).symm)
    obtain⟨bb,rfl⟩:=hv
    (try simp only[pU]);refine Hv.noise (m:=_) (by rfl) (by rfl) (by rfl) (Nown_ex _ _ _) (fun wx hS hf=>?_) (fun v hv=>?_)
    ·have fb:=hf _ (List.mem_cons_self) ⟨[9,10],by simp,rfl⟩
     refine Se.gcall (f:=80) (args:=#[.slice (some ⟨bb,0,none⟩) 3 3]) ?_ ?_
     ·go_simp
     refine Calls.mono (join_np wx fb HQ.out (by rw[HQ.out,EQ.out];simp[numL_length]) (by omega)) ?_;rintro e w' ⟨r,B,c,rfl,hn⟩;exact⟨_,rfl,Nown_new hS hn⟩
    obtain⟨A,c,rfl⟩:=hv
    (try simp only[pU])
    iterate 1 (refine Hv.pA ?_;(try simp only[pU]))
    refine Hv.done (fun wx hS hf=>?_)
    obtain⟨rr,kk⟩:=hf _ (List.mem_cons_self) _ _ rfl
    replace hs:=hs.join kk (by simp[At.noRd]);clear kk hf hS;simp only[List.cons_append,List.nil_append] at hs;simp only[List.drop_succ_cons,List.drop_nil,List.drop_zero]
    go_wp2_with fail
    go_ret;exact⟨A,c,rfl,Se.Ow.rd (hs.hold _ List.mem_cons_self),HW.out _ hs.below⟩
 ·have EQ:=Lib.hid (H2.out h23)
  clear H0 HL H2 H9 H6
  rcases h23 with rfl|rfl
  all_goals
   go_enter Tryz.func82,Tryz.ntmps82
   go_upto_region 7 with (first|((with_reducible refine Se.iL 4 ?_);(refine Se.Ld hs rfl rfl (Cell.blk 0 rfl P0.out) ?_))|((first|with_reducible refine Se.ab hs ?_|with_reducible refine Se.abc hs ?_);clear hs;(first|(generalize w.heap.size=g1;intro w hs))))
   refine Hv.grow 11 (fun|3=>some (Nown w 2 ((numL (p.h.st.setWidth 32) 2).map v8))|6=>some (Nown w 4 ((numL p.h.nf 4).map v8))|7=>some (Nown w 10 ((zs 10).map v8))|8=>some (Nparts 3 sp)|9=>some (Nown w q (sp.map v8))|_=>none) (fun|8=>[[3,8],[6,8],[7,8]]|9=>[[8,9]]|_=>[]) (by kernel_rfl) (by kernel_rfl) ?_ ?_
   ·intro i m hm v wa wb hR hv
    split at hm <;> first|cases hm|skip
    all_goals first|exact Hv.row_st hR hv|exact Hv.con_st hR hv|exact Nown_st hR hv|exact Nparts_st hR hv
   ·change Hv.HW _ _ _ _ _ _ _ [0,1,2,3,4,5,6,7,8,9,10] _ _
    iterate 3 ((first|refine Hv.pA ?_|refine Hv.pE (hv:=fun wx hS=>Se.xL (hc:=(by rw[((hs.ext hS).hold (.blk g1 65 PL) (by simp)).cell];first|exact P11.out|exact P12.out))) (h:=?_));(try simp only[pU]))
    refine Hv.noise (m:=_) (by rfl) (by rfl) (by rfl) (Nown_ex _ _ _) (fun wx hS hf=>?_) (fun v hv=>?_)
    ·refine Se.gcall (f:=81) (args:=#[.int .u32 (n32 (p.h.st.setWidth 32)),.int .i64 2]) ?_ ?_
     ·go_simp
     refine Calls.mono (little_any wx (p.h.st.setWidth 32) 2 (by omega)) ?_;rintro e w' ⟨r,B,c,rfl,hn⟩;exact⟨_,rfl,Nown_new hS hn⟩
    obtain⟨A0,c0,rfl⟩:=hv
    (try simp only[pU])
    iterate 2 ((first|refine Hv.pA ?_|refine Hv.pE (hv:=fun wx hS=>Se.xL (hc:=(by rw[((hs.ext hS).hold (.blk g1 65 PL) (by simp)).cell];first|exact P11.out|exact P12.out))) (h:=?_));(try simp only[pU]))
    refine Hv.noise (m:=_) (by rfl) (by rfl) (by rfl) (Nown_ex _ _ _) (fun wx hS hf=>?_) (fun v hv=>?_)
    ·refine Se.gcall (f:=81) (args:=#[.int .u32 (n32 p.h.nf),.int .i64 4]) ?_ ?_
     ·go_simp
     refine Calls.mono (little_any wx p.h.nf 4 (by omega)) ?_;rintro e w' ⟨r,B,c,rfl,hn⟩;exact⟨_,rfl,Nown_new hS hn⟩
    obtain⟨A1,c1,rfl⟩:=hv
    (try simp only[pU]);refine Hv.noise (m:=_) (by rfl) (by rfl) (by rfl) (Nown_ex _ _ _) (fun wx hS hf=>?_) (fun v hv=>?_)
    ·exact Nzero hS 10 rfl rfl rfl (by decide)
    obtain⟨A2,c2,rfl⟩:=hv
    (try simp only[pU]);refine Hv.noise (m:=_) (by rfl) (by rfl) (by rfl) (Nparts_ex _ _) (fun wx hS hf=>?_) (fun v hv=>?_)
    ·have f0:=hf _ (List.mem_cons_of_mem _ (List.mem_cons_of_mem _ (List.mem_cons_self))) ⟨[3,8],by simp,rfl⟩
     have f1:=hf _ (List.mem_cons_of_mem _ (List.mem_cons_self)) ⟨[6,8],by simp,rfl⟩
     have f2:=hf _ (List.mem_cons_self) ⟨[7,8],by simp,rfl⟩
     exact Nparts_bs wx ([⟨A0,c0,numL (p.h.st.setWidth 32) 2⟩,⟨A1,c1,numL p.h.nf 4⟩,⟨A2,c2,zs 10⟩]) rfl (by rfl) (by rfl) (by decide) (by decide) (by simp only[List.forall_mem_cons,List.not_mem_nil,false_imp_iff,implies_true,and_true];exact⟨Nown_rd f0,Nown_rd f1,Nown_rd f2⟩) (by rw[flat3];exact(EQ.out).symm)
    obtain⟨bb,rfl⟩:=hv
    (try simp only[pU]);refine Hv.noise (m:=_) (by rfl) (by rfl) (by rfl) (Nown_ex _ _ _) (fun wx hS hf=>?_) (fun v hv=>?_)
    ·have fb:=hf _ (List.mem_cons_self) ⟨[8,9],by simp,rfl⟩
     refine Se.gcall (f:=80) (args:=#[.slice (some ⟨bb,0,none⟩) 3 3]) ?_ ?_
     ·go_simp
     refine Calls.mono (join_np wx fb HQ.out (by rw[HQ.out,EQ.out];simp[numL_length]) (by omega)) ?_;rintro e w' ⟨r,B,c,rfl,hn⟩;exact⟨_,rfl,Nown_new hS hn⟩
    obtain⟨A,c,rfl⟩:=hv
    (try simp only[pU])
    iterate 1 (refine Hv.pA ?_;(try simp only[pU]))
    refine Hv.done (fun wx hS hf=>?_)
    obtain⟨rr,kk⟩:=hf _ (List.mem_cons_self) _ _ rfl
    replace hs:=hs.join kk (by simp[At.noRd]);clear kk hf hS;simp only[List.cons_append,List.nil_append] at hs;simp only[List.drop_succ_cons,List.drop_nil,List.drop_zero]
    go_wp2_with fail
    go_ret;exact⟨A,c,rfl,Se.Ow.rd (hs.hold _ List.mem_cons_self),HW.out _ hs.below⟩
 ·have EQ:=Lib.hid (HL.out h45)
  clear H0 HL H2 H9 H6
  rcases h45 with rfl|rfl
  all_goals
   go_enter Tryz.func82,Tryz.ntmps82
   go_wp2_with (first|((with_reducible refine Se.iL 4 ?_);(refine Se.Ld hs rfl rfl (Cell.blk 0 rfl P0.out) ?_))|((with_reducible refine Se.iL 37 ?_);(refine Se.Ld hs rfl rfl (Cell.blk 0 rfl P3.out) ?_))|((first|with_reducible refine Se.ab hs ?_|with_reducible refine Se.abc hs ?_);clear hs;(first|(generalize w.heap.size=g1;intro w hs))))
   go_ret;refine⟨EA,ec,by rw[HQ.out,<-EQ.out,HEN.out];rfl,?_,HW.out _ hs.below⟩;rw[<-EQ.out];exact HE.out _ hs.drop.hold
 ·have EQ:=Lib.hid (H9.out h9)
  clear H0 HL H2 H9 H6;subst h9
  go_enter Tryz.func82,Tryz.ntmps82
  go_upto_region 12 with (first|((with_reducible refine Se.iL 4 ?_);(refine Se.Ld hs rfl rfl (Cell.blk 0 rfl P0.out) ?_))|((first|with_reducible refine Se.ab hs ?_|with_reducible refine Se.abc hs ?_);clear hs;(first|(generalize w.heap.size=g1;intro w hs))))
  refine Hv.grow 18 (fun|3=>some (Nown w 2 ((numL (p.h.id.setWidth 32) 2).map v8))|7=>some (Nown w 2 ((numL (p.h.tg.setWidth 32) 2).map v8))|10=>some (Nown w 4 ((numL p.h.of 4).map v8))|13=>some (Nown w 4 ((numL p.h.ln 4).map v8))|14=>some (Nown w 4 ((zs 4).map v8))|15=>some (Nparts 5 sp)|16=>some (Nown w q (sp.map v8))|_=>none) (fun|15=>[[3,15],[7,15],[10,15],[13,15],[14,15]]|16=>[[15,16]]|_=>[]) (by kernel_rfl) (by kernel_rfl) ?_ ?_
  ·intro i m hm v wa wb hR hv
   split at hm <;> first|cases hm|skip
   all_goals first|exact Hv.row_st hR hv|exact Hv.con_st hR hv|exact Nown_st hR hv|exact Nparts_st hR hv
  ·change Hv.HW _ _ _ _ _ _ _ [0,1,2,3,4,5,6,7,8,9,10,11,12,13,14,15,16,17] _ _
   iterate 3 ((first|refine Hv.pA ?_|refine Hv.pE (hv:=fun wx hS=>Se.xL (hc:=(by rw[((hs.ext hS).hold (.blk g1 65 PL) (by simp)).cell];first|exact P4.out|exact P5.out|exact P6.out|exact P7.out))) (h:=?_));(try simp only[pU]))
   refine Hv.noise (m:=_) (by rfl) (by rfl) (by rfl) (Nown_ex _ _ _) (fun wx hS hf=>?_) (fun v hv=>?_)
   ·refine Se.gcall (f:=81) (args:=#[.int .u32 (n32 (p.h.id.setWidth 32)),.int .i64 2]) ?_ ?_
    ·go_simp
    refine Calls.mono (little_any wx (p.h.id.setWidth 32) 2 (by omega)) ?_;rintro e w' ⟨r,B,c,rfl,hn⟩;exact⟨_,rfl,Nown_new hS hn⟩
   obtain⟨A0,c0,rfl⟩:=hv
   (try simp only[pU])
   iterate 3 ((first|refine Hv.pA ?_|refine Hv.pE (hv:=fun wx hS=>Se.xL (hc:=(by rw[((hs.ext hS).hold (.blk g1 65 PL) (by simp)).cell];first|exact P4.out|exact P5.out|exact P6.out|exact P7.out))) (h:=?_));(try simp only[pU]))
   refine Hv.noise (m:=_) (by rfl) (by rfl) (by rfl) (Nown_ex _ _ _) (fun wx hS hf=>?_) (fun v hv=>?_)
   ·refine Se.gcall (f:=81) (args:=#[.int .u32 (n32 (p.h.tg.setWidth 32)),.int .i64 2]) ?_ ?_
    ·go_simp
    refine Calls.mono (little_any wx (p.h.tg.setWidth 32) 2 (by omega)) ?_;rintro e w' ⟨r,B,c,rfl,hn⟩;exact⟨_,rfl,Nown_new hS hn⟩
   obtain⟨A1,c1,rfl⟩:=hv
   (try simp only[pU])
   iterate 2 ((first|refine Hv.pA ?_|refine Hv.pE (hv:=fun wx hS=>Se.xL (hc:=(by rw[((hs.ext hS).hold (.blk g1 65 PL) (by simp)).cell];first|exact P4.out|exact P5.out|exact P6.out|exact P7.out))) (h:=?_));(try simp only[pU]))
   refine Hv.noise (m:=_) (by rfl) (by rfl) (by rfl) (Nown_ex _ _ _) (fun wx hS hf=>?_) (fun v hv=>?_)
   ·refine Se.gcall (f:=81) (args:=#[.int .u32 (n32 p.h.of),.int .i64 4]) ?_ ?_
    ·go_simp
    refine Calls.mono (little_any wx p.h.of 4 (by omega)) ?_;rintro e w' ⟨r,B,c,rfl,hn⟩;exact⟨_,rfl,Nown_new hS hn⟩
   obtain⟨A2,c2,rfl⟩:=hv
   (try simp only[pU])
   iterate 2 ((first|refine Hv.pA ?_|refine Hv.pE (hv:=fun wx hS=>Se.xL (hc:=(by rw[((hs.ext hS).hold (.blk g1 65 PL) (by simp)).cell];first|exact P4.out|exact P5.out|exact P6.out|exact P7.out))) (h:=?_));(try simp only[pU]))
   refine Hv.noise (m:=_) (by rfl) (by rfl) (by rfl) (Nown_ex _ _ _) (fun wx hS hf=>?_) (fun v hv=>?_)
   ·refine Se.gcall (f:=81) (args:=#[.int .u32 (n32 p.h.ln),.int .i64 4]) ?_ ?_
    ·go_simp
    refine Calls.mono (little_any wx p.h.ln 4 (by omega)) ?_;rintro e w' ⟨r,B,c,rfl,hn⟩;exact⟨_,rfl,Nown_new hS hn⟩
   obtain⟨A3,c3,rfl⟩:=hv
   (try simp only[pU]);refine Hv.noise (m:=_) (by rfl) (by rfl) (by rfl) (Nown_ex _ _ _) (fun wx hS hf=>?_) (fun v hv=>?_)
   ·exact Nzero hS 4 rfl rfl rfl (by decide)
   obtain⟨A4,c4,rfl⟩:=hv
   (try simp only[pU]);refine Hv.noise (m:=_) (by rfl) (by rfl) (by rfl) (Nparts_ex _ _) (fun wx hS hf=>?_) (fun v hv=>?_)
   ·have f0:=hf _ (List.mem_cons_of_mem _ (List.mem_cons_of_mem _ (List.mem_cons_of_mem _ (List.mem_cons_of_mem _ (List.mem_cons_self))))) ⟨[3,15],by simp,rfl⟩
    have f1:=hf _ (List.mem_cons_of_mem _ (List.mem_cons_of_mem _ (List.mem_cons_of_mem _ (List.mem_cons_self)))) ⟨[7,15],by simp,rfl⟩
    have f2:=hf _ (List.mem_cons_of_mem _ (List.mem_cons_of_mem _ (List.mem_cons_self))) ⟨[10,15],by simp,rfl⟩
    have f3:=hf _ (List.mem_cons_of_mem _ (List.mem_cons_self)) ⟨[13,15],by simp,rfl⟩
    have f4:=hf _ (List.mem_cons_self) ⟨[14,15],by simp,rfl⟩
    exact Nparts_bs wx ([⟨A0,c0,numL (p.h.id.setWidth 32) 2⟩,⟨A1,c1,numL (p.h.tg.setWidth 32) 2⟩,⟨A2,c2,numL p.h.of 4⟩,⟨A3,c3,numL p.h.ln 4⟩,⟨A4,c4,zs 4⟩]) rfl (by rfl) (by rfl) (by decide) (by decide) (by simp only[List.forall_mem_cons,List.not_mem_nil,false_imp_iff,implies_true,and_true];exact⟨Nown_rd f0,Nown_rd f1,Nown_rd f2,Nown_rd f3,Nown_rd f4⟩) (by rw[flat5];exact(EQ.out).symm)
   obtain⟨bb,rfl⟩:=hv
   (try simp only[pU]);refine Hv.noise (m:=_) (by rfl) (by rfl) (by rfl) (Nown_ex _ _ _) (fun wx hS hf=>?_) (fun v hv=>?_)
   ·have fb:=hf _ (List.mem_cons_self) ⟨[15,16],by simp,rfl⟩
    refine Se.gcall (f:=80) (args:=#[.slice (some ⟨bb,0,none⟩) 5 5]) ?_ ?_
    ·go_simp
    refine Calls.mono (join_np wx fb HQ.out (by rw[HQ.out,EQ.out];simp[numL_length]) (by omega)) ?_;rintro e w' ⟨r,B,c,rfl,hn⟩;exact⟨_,rfl,Nown_new hS hn⟩
   obtain⟨A,c,rfl⟩:=hv
   (try simp only[pU])
   iterate 1 (refine Hv.pA ?_;(try simp only[pU]))
   refine Hv.done (fun wx hS hf=>?_)
   obtain⟨rr,kk⟩:=hf _ (List.mem_cons_self) _ _ rfl
   replace hs:=hs.join kk (by simp[At.noRd]);clear kk hf hS;simp only[List.cons_append,List.nil_append] at hs;simp only[List.drop_succ_cons,List.drop_nil,List.drop_zero]
   go_wp2_with fail
   go_ret;exact⟨A,c,rfl,Se.Ow.rd (hs.hold _ List.mem_cons_self),HW.out _ hs.below⟩
 ·have EQ:=Lib.hid (H6.out h67)
  clear H0 HL H2 H9 H6
  rcases h67 with rfl|rfl
  all_goals
   go_enter Tryz.func82,Tryz.ntmps82
   go_upto_region 13 with (first|((with_reducible refine Se.iL 4 ?_);(refine Se.Ld hs rfl rfl (Cell.blk 0 rfl P0.out) ?_))|((first|with_reducible refine Se.ab hs ?_|with_reducible refine Se.abc hs ?_);clear hs;(first|(generalize w.heap.size=g1;intro w hs))))
   refine Hv.grow 20 (fun|3=>some (Nown w 2 ((numL (p.h.id.setWidth 32) 2).map v8))|7=>some (Nown w 2 ((numL (p.h.tg.setWidth 32) 2).map v8))|10=>some (Nown w 4 ((numL p.h.of 4).map v8))|15=>some (Nown w 4 ((numL (BitVec.ofNat 32 dn) 4).map v8))|16=>some (Nown w 4 ((zs 4).map v8))|17=>some (Nparts 5 sp)|18=>some (Nown w q (sp.map v8))|_=>none) (fun|17=>[[3,17],[7,17],[10,17],[15,17],[16,17]]|18=>[[17,18]]|_=>[]) (by kernel_rfl) (by kernel_rfl) ?_ ?_
   ·intro i m hm v wa wb hR hv
    split at hm <;> first|cases hm|skip
    all_goals first|exact Hv.row_st hR hv|exact Hv.con_st hR hv|exact Nown_st hR hv|exact Nparts_st hR hv
   ·change Hv.HW _ _ _ _ _ _ _ [0,1,2,3,4,5,6,7,8,9,10,11,12,13,14,15,16,17,18,19] _ _
    iterate 3 ((first|refine Hv.pA ?_|refine Hv.pE (hv:=fun wx hS=>Se.xL (hc:=(by rw[((hs.ext hS).hold (.blk g1 65 PL) (by simp)).cell];first|exact P4.out|exact P5.out|exact P6.out|exact P13.out))) (h:=?_));(try simp only[pU]))
    refine Hv.noise (m:=_) (by rfl) (by rfl) (by rfl) (Nown_ex _ _ _) (fun wx hS hf=>?_) (fun v hv=>?_)
    ·refine Se.gcall (f:=81) (args:=#[.int .u32 (n32 (p.h.id.setWidth 32)),.int .i64 2]) ?_ ?_
     ·go_simp
     refine Calls.mono (little_any wx (p.h.id.setWidth 32) 2 (by omega)) ?_;rintro e w' ⟨r,B,c,rfl,hn⟩;exact⟨_,rfl,Nown_new hS hn⟩
    obtain⟨A0,c0,rfl⟩:=hv
    (try simp only[pU])
    iterate 3 ((first|refine Hv.pA ?_|refine Hv.pE (hv:=fun wx hS=>Se.xL (hc:=(by rw[((hs.ext hS).hold (.blk g1 65 PL) (by simp)).cell];first|exact P4.out|exact P5.out|exact P6.out|exact P13.out))) (h:=?_));(try simp only[pU]))
    refine Hv.noise (m:=_) (by rfl) (by rfl) (by rfl) (Nown_ex _ _ _) (fun wx hS hf=>?_) (fun v hv=>?_)
    ·refine Se.gcall (f:=81) (args:=#[.int .u32 (n32 (p.h.tg.setWidth 32)),.int .i64 2]) ?_ ?_
     ·go_simp
     refine Calls.mono (little_any wx (p.h.tg.setWidth 32) 2 (by omega)) ?_;rintro e w' ⟨r,B,c,rfl,hn⟩;exact⟨_,rfl,Nown_new hS hn⟩
    obtain⟨A1,c1,rfl⟩:=hv
    (try simp only[pU])
    iterate 2 ((first|refine Hv.pA ?_|refine Hv.pE (hv:=fun wx hS=>Se.xL (hc:=(by rw[((hs.ext hS).hold (.blk g1 65 PL) (by simp)).cell];first|exact P4.out|exact P5.out|exact P6.out|exact P13.out))) (h:=?_));(try simp only[pU]))
    refine Hv.noise (m:=_) (by rfl) (by rfl) (by rfl) (Nown_ex _ _ _) (fun wx hS hf=>?_) (fun v hv=>?_)
    ·refine Se.gcall (f:=81) (args:=#[.int .u32 (n32 p.h.of),.int .i64 4]) ?_ ?_
     ·go_simp
     refine Calls.mono (little_any wx p.h.of 4 (by omega)) ?_;rintro e w' ⟨r,B,c,rfl,hn⟩;exact⟨_,rfl,Nown_new hS hn⟩
    obtain⟨A2,c2,rfl⟩:=hv
    (try simp only[pU])
    iterate 4 ((first|refine Hv.pA ?_|refine Hv.pE (hv:=fun wx hS=>Se.xL (hc:=(by rw[((hs.ext hS).hold (.blk g1 65 PL) (by simp)).cell];first|exact P4.out|exact P5.out|exact P6.out|exact P13.out))) (h:=?_));(try simp only[pU]))
    refine Hv.noise (m:=_) (by rfl) (by rfl) (by rfl) (Nown_ex _ _ _) (fun wx hS hf=>?_) (fun v hv=>?_)
    ·refine Se.gcall (f:=81) (args:=#[.int .u32 (n32 (BitVec.ofNat 32 dn)),.int .i64 4]) ?_ ?_
     ·go_simp
     refine Calls.mono (little_any wx (BitVec.ofNat 32 dn) 4 (by omega)) ?_;rintro e w' ⟨r,B,c,rfl,hn⟩;exact⟨_,rfl,Nown_new hS hn⟩
    obtain⟨A3,c3,rfl⟩:=hv
    (try simp only[pU]);refine Hv.noise (m:=_) (by rfl) (by rfl) (by rfl) (Nown_ex _ _ _) (fun wx hS hf=>?_) (fun v hv=>?_)
    ·exact Nzero hS 4 rfl rfl rfl (by decide)
    obtain⟨A4,c4,rfl⟩:=hv
    (try simp only[pU]);refine Hv.noise (m:=_) (by rfl) (by rfl) (by rfl) (Nparts_ex _ _) (fun wx hS hf=>?_) (fun v hv=>?_)
    ·have f0:=hf _ (List.mem_cons_of_mem _ (List.mem_cons_of_mem _ (List.mem_cons_of_mem _ (List.mem_cons_of_mem _ (List.mem_cons_self))))) ⟨[3,17],by simp,rfl⟩
     have f1:=hf _ (List.mem_cons_of_mem _ (List.mem_cons_of_mem _ (List.mem_cons_of_mem _ (List.mem_cons_self)))) ⟨[7,17],by simp,rfl⟩
     have f2:=hf _ (List.mem_cons_of_mem _ (List.mem_cons_of_mem _ (List.mem_cons_self))) ⟨[10,17],by simp,rfl⟩
     have f3:=hf _ (List.mem_cons_of_mem _ (List.mem_cons_self)) ⟨[15,17],by simp,rfl⟩
     have f4:=hf _ (List.mem_cons_self) ⟨[16,17],by simp,rfl⟩
     exact Nparts_bs wx ([⟨A0,c0,numL (p.h.id.setWidth 32) 2⟩,⟨A1,c1,numL (p.h.tg.setWidth 32) 2⟩,⟨A2,c2,numL p.h.of 4⟩,⟨A3,c3,numL (BitVec.ofNat 32 dn) 4⟩,⟨A4,c4,zs 4⟩]) rfl (by rfl) (by rfl) (by decide) (by decide) (by simp only[List.forall_mem_cons,List.not_mem_nil,false_imp_iff,implies_true,and_true];exact⟨Nown_rd f0,Nown_rd f1,Nown_rd f2,Nown_rd f3,Nown_rd f4⟩) (by rw[flat5];exact(EQ.out).symm)
    obtain⟨bb,rfl⟩:=hv
    (try simp only[pU]);refine Hv.noise (m:=_) (by rfl) (by rfl) (by rfl) (Nown_ex _ _ _) (fun wx hS hf=>?_) (fun v hv=>?_)
    ·have fb:=hf _ (List.mem_cons_self) ⟨[17,18],by simp,rfl⟩
     refine Se.gcall (f:=80) (args:=#[.slice (some ⟨bb,0,none⟩) 5 5]) ?_ ?_
     ·go_simp
     refine Calls.mono (join_np wx fb HQ.out (by rw[HQ.out,EQ.out];simp[numL_length]) (by omega)) ?_;rintro e w' ⟨r,B,c,rfl,hn⟩;exact⟨_,rfl,Nown_new hS hn⟩
    obtain⟨A,c,rfl⟩:=hv
    (try simp only[pU])
    iterate 1 (refine Hv.pA ?_;(try simp only[pU]))
    refine Hv.done (fun wx hS hf=>?_)
    obtain⟨rr,kk⟩:=hf _ (List.mem_cons_self) _ _ rfl
    replace hs:=hs.join kk (by simp[At.noRd]);clear kk hf hS;simp only[List.cons_append,List.nil_append] at hs;simp only[List.drop_succ_cons,List.drop_nil,List.drop_zero]
    go_wp2_with fail
    go_ret;exact⟨A,c,rfl,Se.Ow.rd (hs.hold _ List.mem_cons_self),HW.out _ hs.below⟩
end
end Pd
end Go.Proofs.YtjnllcnknjlmmaaGreat
namespace Go.Proofs.YtjnllcnknjlmmaaGreat
open Go Go.RowKit
namespace Pd
open Se (St At Reads Cell)
open Li (v8 v8_one Rd Blk)
open Bv (n8 n32)
variable {w0 w:World} {X:List Nat} {L:List At}
attribute [local irreducible] Calls
def Nrd(n:Nat)(xs:List Value):Hv.Noisy:=⟨fun v=>∃ A c,v=.slice A n c,fun v w=>∀ A c,v=.slice A n c->Rd w A xs⟩
theorem Nrd_ex(n:Nat)(xs:List Value):∃ v,(Nrd n xs).vv v:=⟨_,none,0,rfl⟩
theorem Nrd_st{w':World}{n:Nat}{xs:List Value}{v:Value}(h:Hv.Ext w w')(k:(Nrd n xs).ww v w):(Nrd n xs).ww v w':=fun A c e=>(k A c e).grow h
theorem rEncode_st(hs:St w0 X L w)(p:PDU)(f:Fm){EA DA:Option Addr}{en ec dn dc:Nat}(hE:Reads L EA (p.en.map v8))(hD:Reads L DA (p.da.map v8))(he:en=p.en.length)(hd:dn=p.da.length)(h1:framed f=true)(h2:valid p=true){m:Nat}(hm:m=(enc p f).length) :
  Calls Tryz.prog 28 #[.agg (pc p.h EA en ec DA dn dc).toArray,fv f] w fun e' w'=>∃ r B c,e'=.returned (.slice B m c)/\St w0 X (.own 1 r B m c ((enc p f).map v8)::L) w':=by
 obtain⟨kb,hkb⟩:∃ kb,kb=p.h.k:=⟨_,rfl⟩
 obtain⟨k,hk⟩:∃ k,k=p.h.k.toNat:=⟨_,rfl⟩
 have hkl:k<256:=by rw[hk];exact p.h.k.isLt
 have hnk:n8 kb=(k:Int):=by rw[hkb,hk];rfl
 have hk0:decide (hdr k≠0)=true:=by
  rw[valid_eq] at h2;unfold pv at h2;simp only[Bool.and_eq_true,<-hk] at h2;exact h2.1.1.1.1.1
 obtain⟨PL,hP⟩:∃ PL,PL=pc p.h EA en ec DA dn dc:=⟨_,rfl⟩
 obtain⟨F,hF⟩:∃ F,F=fl f:=⟨_,rfl⟩
 obtain⟨b3,hb3⟩:∃ b3,decide (0<dn)=b3:=⟨_,rfl⟩
 obtain⟨h,hh⟩:∃ h,hsum k f=h:=⟨_,rfl⟩
 obtain⟨d,hdd⟩:∃ d,dsum k f b3=d:=⟨_,rfl⟩
 obtain⟨s,hst⟩:∃ s,start k f=s:=⟨_,rfl⟩
 obtain⟨q,hq⟩:∃ q,hdr k=q:=⟨_,rfl⟩
 obtain⟨at0,hat⟩:∃ a,(if b3=true then s else 0)=a:=⟨_,rfl⟩
 obtain⟨n,hn⟩:∃ n,size p f=n:=⟨_,rfl⟩
 obtain⟨fg,hfg⟩:∃ fg,flagsN p h d=fg:=⟨_,rfl⟩
 obtain⟨sp,hsp⟩:∃ sp,special p=sp:=⟨_,rfl⟩
 obtain⟨HD,hHD⟩:∃ HD,head p f=HD:=⟨_,rfl⟩
 have hhs:Pd.hs p f=h:=by unfold Pd.hs;rw[<-hk];exact hh
 have hds:ds p f=d:=by unfold ds;rw[<-hk,<-hd,hb3];exact hdd
 have hat':at' p f=at0:=by unfold at';rw[<-hk,<-hd,hst,<-hat,<-hb3];simp
 have hql:q<=128:=by rw[<-hq];exact hdr_le k
 have HDL:Hid (q=HD.length):=Lib.hid (by rw[<-hHD,head_len p f h2,<-hk,hq])
 have HDE:Hid (∀ a b c:List (BitVec 8),a=[kb,BitVec.ofNat 8 fg,BitVec.ofNat 8 q,BitVec.ofNat 8 at0]->b=numL (BitVec.ofNat 32 n) 4->c=sp->a++b++c=HD):=Lib.hid (by
  rintro a b c rfl rfl rfl;rw[<-hHD];unfold head;rw[hhs,hds,hat',hn,hfg,<-hk,hq,<-hkb,hsp])
 have wk:IntKind.i64.wrap (k:Int)=k:=IntWalk.i64_in _ (by omega)
 have PLL:=Lib.hid (show PL.length=14 by rw[hP];rfl)
 have P0:=Lib.hid (show PL[0]? = some (.int .u8 (k:Int)) by rw[hP,hk];rfl)
 have P1:=Lib.hid (show PL[1]? = some (.bool p.h.la) by rw[hP];rfl)
 have P2:=Lib.hid (show PL[2]? = some (.bool p.h.su) by rw[hP];rfl)
 have P13:=Lib.hid (show PL[13]? = some (.slice DA dn dc) by rw[hP];rfl)
 have FL:=Lib.hid (show F.length=3 by rw[hF];rfl)
 have CH:Hid (∀ (L':List At) (w:World),St w0 X (L'++L) w->Calls Tryz.prog 78 #[.int .i64 (k:Int)] w fun e w'=>e=.returned (iv q)/\St w0 X (L'++L) w'):=Lib.hid (fun L' w hs=>rHeader_st hs k hkl hq)
 have CHA:Hid (∀ w:World,Calls Tryz.prog 78 #[.int .i64 (k:Int)] w fun e w'=>e=.returned (iv q)/\Below w.heap.size w w'):=Lib.hid (fun w=>rHeader_any w k hkl hq)
 have CHS:Hid (∀ (L':List At) (w:World),St w0 X (L'++L) w->Calls Tryz.prog 76 #[.int .i64 (k:Int),.agg F.toArray] w fun e w'=>e=.returned (iv h)/\St w0 X (L'++L) w'):=Lib.hid (fun L' w hs=>by rw[hF,<-fv_eq];exact rHeaderSum_st hs k f hh)
 have CDS:Hid (∀ (L':List At) (w:World),St w0 X (L'++L) w->Calls Tryz.prog 77 #[.int .i64 (k:Int),.agg F.toArray,.bool b3] w fun e w'=>e=.returned (iv d)/\St w0 X (L'++L) w'):=Lib.hid (fun L' w hs=>by rw[hF,<-fv_eq];exact rDataSum_st hs k f b3 hdd)
 have CST:Hid (∀ (L':List At) (w:World),St w0 X (L'++L) w->Calls Tryz.prog 79 #[.int .i64 (k:Int),.agg F.toArray] w fun e w'=>e=.returned (iv s)/\St w0 X (L'++L) w'):=Lib.hid (fun L' w hs=>by rw[hF,<-fv_eq];exact rStart_st hs k hkl h1 hst)
 have CSP:Hid (∀ w:World,Rd w EA (p.en.map v8)->Calls Tryz.prog 82 #[.agg PL.toArray] w fun e w'=>∃ A c,e=.returned (.slice A sp.length c)/\Rd w' A (sp.map v8)/\Below w.heap.size w w'):=Lib.hid (fun w hr=>by rw[hP,<-hsp];exact rspecial_any w p h2 hr he hd rfl)
 have FINR:Hid (∀ H2,H2=HD++(if 0<h then numL (crc HD) 4 else [])->H2++zs (at0-H2.length)++p.da++(if 0<d then numL (crc p.da) 4 else [])=enc p f):=Lib.hid (by
  rintro _ rfl;unfold enc head2;rw[hhs,hds,hat',hHD])
 have HM:=Lib.hid hm
 have hda:p.da.length<=1048576:=by
  have:=h2
  unfold valid at this;simp only[Bool.and_eq_true,decide_eq_true_eq] at this
  have h3:=this.1.1.2
  have:most p.h.k.toNat<=1048576:=by unfold most;split <;> omega
  omega
 have ldn:dn<=1048576:=by omega
 have hatl:at0<=260:=by rw[<-hat];split;(focus (rw[<-hst];exact start_le k h1));(focus omega)
 have HL2:Hid (0<at0->q+(if 0<h then 4 else 0)<=at0):=Lib.hid (fun h0=>by
  have hb:b3=true:=by cases b3;(focus (simp at hat;omega));(focus rfl)
  rw[if_pos hb] at hat
  have h4:(if 0<h then 4 else 0)=h:=by rw[<-hh];unfold hsum;split <;> rfl
  rw[h4,<-hat,<-hst,<-hq,<-hh];exact start_ge k h1)
 have hhl:h<=4:=by rw[<-hh];exact hsum_le k f
 have hsl:s<=260:=by rw[<-hst];exact start_le k h1
 have hdl:d<=4:=by rw[<-hdd];exact dsum_le k f b3
 have HDN:Hid (p.da.length=dn):=Lib.hid hd.symm
 have NE:Hid (n=if b3=true then s+dn+d else q+h):=Lib.hid (by
  rw[<-hn];unfold size;rw[<-hk,hq,hst,hhs,hds,<-hd,<-hb3];simp)
 have HFG:Hid (fg=flN (decide (0<h)) (decide (0<d)) p.h.la p.h.su 4):=Lib.hid (by
  rw[<-hfg];unfold flagsN flN;simp)
 have HE:=Lib.hid hE
 have HDD:=Lib.hid hD
 have HAT:=Lib.hid hat
 have HNK:=Lib.hid hnk
 have HB3:=Lib.hid hb3
 have HQL:=Lib.hid hql
 rw[<-hP,fv_eq,<-hF];clear hP hF hh hdd hst hq hn hfg hsp hHD hhs hds hat' hk hnk hk0 hE hD he hd h1 h2 hkb hm hda hat
 go_enter Tryz.func28,Tryz.ntmps28
 go_upto_region 3 with (first|((with_reducible refine Se.iL 14 ?_);(refine Se.Ld hs rfl rfl (Cell.blk 1 rfl P0.out) ?_))|((with_reducible refine Se.iL 17 ?_);(refine Se.Ld hs rfl rfl (Cell.blk 1 rfl P13.out) ?_))|((first|with_reducible refine Se.ab hs ?_|with_reducible refine Se.abc hs ?_);clear hs;(first|((fail_if_success (have _q:=g2));generalize w.heap.size=g2;intro w hs)|(generalize w.heap.size=g3;intro w hs))))
 refine Ch.region' 9 (fun wx=>Blk wx g2 PL 65/\Blk wx g3 F 54) (fun|2=>true|6=>true|_=>false) (by kernel_rfl) (by decide +kernel) (⟨hs.drew.hold (.blk g2 65 PL) (by simp),hs.drew.hold (.blk g3 54 F) (by simp)⟩) ?_;replace hs:=hs.drew;generalize w.drew=w at hs ⊢;change Ch.CW _ _ _ _ _ [0,1,2,3,4,5,6,7,8] _ _
 iterate 2 ((first|refine Ch.pA ?_|refine Ch.pE (hv:=fun wx hS=>Se.xR (hr:=(Li.Rd.of_blk hS.2)) (hi:=(by rw[FL.out] <;> kernel_rfl))) (h:=?_));(try simp only[pU]))
 refine Ch.cA (f:=76) (args:=#[.int .i64 (k:Int),.agg F.toArray]) (CHS.out [_,_] _ hs) ?_;clear hs;rintro e w⟨rfl,hs⟩;refine⟨_,rfl,⟨hs.hold (.blk g2 65 PL) (by simp),hs.hold (.blk g3 54 F) (by simp)⟩,?_⟩;(try simp only[pU])
 iterate 3 ((first|refine Ch.pA ?_|refine Ch.pE (hv:=fun wx hS=>Se.xR (hr:=(Li.Rd.of_blk hS.2)) (hi:=(by rw[FL.out] <;> kernel_rfl))) (h:=?_));(try simp only[pU]))
 refine Ch.cA (f:=77) (args:=#[.int .i64 (k:Int),.agg F.toArray,.bool b3]) (CDS.out [_,_] _ hs) ?_;clear hs;rintro e w⟨rfl,hs⟩;refine⟨_,rfl,⟨hs.hold (.blk g2 65 PL) (by simp),hs.hold (.blk g3 54 F) (by simp)⟩,?_⟩;(try simp only[pU])
 iterate 2 (refine Ch.pA ?_;(try simp only[pU]))
 refine Ch.done ?_
 try simp only[List.drop_succ_cons,List.drop_zero]
 have w1:IntKind.i64.wrap ((q:Int)+(h:Int))=((q+h:Nat):Int):=by rw[IntWalk.i64_in _ (by omega)];omega
 go_upto_if 31 with (first|(go_at_call 78;refine Calls.mono (CH.out [_,_] _ hs) ?_;clear hs;rintro e w ⟨rfl,hs⟩))
 go_cut [9,10] (fun s9 s10 wx=>s9=iv at0/\s10=iv n/\St w0 X ([.blk g3 54 F,.blk g2 65 PL]++L) wx)
 case first =>
  have e1:=HAT.out
  have e2:=NE.out
  cases b3 with
  | true =>
   rw[if_pos rfl] at e1 e2
   have E1:=Lib.hid e1
   have E2:=Lib.hid e2
   have w2:IntKind.i64.wrap ((s:Int)+(dn:Int))=((s+dn:Nat):Int):=by rw[IntWalk.i64_in _ (by omega)];omega
   have w3:IntKind.i64.wrap (((s+dn:Nat):Int)+(d:Int))=((s+dn+d:Nat):Int):=by rw[IntWalk.i64_in _ (by omega)];omega
   have w3':IntKind.i64.wrap ((s:Int)+(dn:Int)+(d:Int))=((s+dn+d:Nat):Int):=by rw[IntWalk.i64_in _ (by omega)];omega
   clear e1 e2
   go_wp2_with (first|((with_reducible refine Se.iL 33 ?_);(refine Se.Ldw hs rfl rfl (Reads.blk 0 rfl) (by rw[FL.out];kernel_rfl) ?_))|((with_reducible refine Se.iL 37 ?_);(refine Se.Ld hs rfl rfl (Cell.blk 1 rfl P13.out) ?_))|(go_at_call 79;refine Calls.mono (CST.out [_,_] _ hs) ?_;clear hs;rintro e w ⟨rfl,hs⟩))
   go_meet;exact⟨congrArg (Value.int .i64) (by have:=E1.out;omega),congrArg (Value.int .i64) (by have:=E2.out;omega),hs⟩
  | false =>
   rw[if_neg (by decide)] at e1 e2
   have E1:=Lib.hid e1
   have E2:=Lib.hid e2
   clear e1 e2
   go_wp2_with fail
   go_meet;exact⟨congrArg (Value.int .i64) (by have:=E1.out;omega),congrArg (Value.int .i64) (by have:=E2.out;omega),hs⟩
 case rest =>
  clear hs
  obtain⟨rfl,rfl,hs⟩:=hcut
  rename World=>w
  clear CST CDS CHS CH hb3
  obtain⟨fn,hfn⟩:∃ fn:Nat->Nat,fn=flN (decide (0<h)) (decide (0<d)) p.h.la p.h.su:=⟨_,rfl⟩
  obtain⟨x1,hx1⟩:∃ b,decide (0<h)=b:=⟨_,rfl⟩
  obtain⟨x2,hx2⟩:∃ b,decide (0<d)=b:=⟨_,rfl⟩
  obtain⟨x3,hx3⟩:∃ b,p.h.la=b:=⟨_,rfl⟩
  obtain⟨x4,hx4⟩:∃ b,p.h.su=b:=⟨_,rfl⟩
  rw[hx1,hx2,hx3,hx4] at hfn
  have FG:=Lib.hid (show fg=fn 4 by rw[HFG.out,hfn,hx1,hx2,hx3,hx4])
  have F0:=Lib.hid (show fn 0=0 by rw[hfn];simp[flN])
  have FA:=Lib.hid (show(x1=true->fn 1=fn 0+1)/\(x2=true->fn 2=fn 1+2)/\(x3=true->fn 3=fn 2+4)/\(x4=true->fn 4=fn 3+8) by
   rw[hfn];cases x1 <;> cases x2 <;> cases x3 <;> cases x4 <;> decide)
  have FO:=Lib.hid (show(x1=false->fn 1=fn 0)/\(x2=false->fn 2=fn 1)/\(x3=false->fn 3=fn 2)/\(x4=false->fn 4=fn 3) by
   rw[hfn];cases x1 <;> cases x2 <;> cases x3 <;> cases x4 <;> decide)
  have FB:=Lib.hid (show fn 1<=255/\fn 2<=255/\fn 3<=255/\fn 4<=255 by
   rw[hfn];cases x1 <;> cases x2 <;> cases x3 <;> cases x4 <;> decide)
  rw[hx3] at P1;rw[hx4] at P2;clear hfn HFG hx3 hx4
  go_upto_if 43 with (fail)
  go_cut [11] (fun s11 wx=>s11=.int .u8 ((fn 1:Nat):Int)/\St w0 X ([.blk g3 54 F,.blk g2 65 PL]++L) wx)
  case first =>
   cases x1 with
   | true =>
    have E:=Lib.hid (show fn 1=1 by rw[FA.out.1 rfl,F0.out])
    go_wp2_with fail
    go_meet;exact⟨by rw[E.out];rfl,hs⟩
   | false =>
    have E:=Lib.hid (show fn 1=0 by rw[FO.out.1 rfl,F0.out])
    go_wp2_with fail
    go_meet;exact⟨by rw[E.out];rfl,hs⟩
  case rest =>
   clear hs
   obtain⟨rfl,hs⟩:=hcut
   rename World=>w
   go_upto_if 47 with (fail)
   go_cut [11] (fun s11 wx=>s11=.int .u8 ((fn 2:Nat):Int)/\St w0 X ([.blk g3 54 F,.blk g2 65 PL]++L) wx)
   case first =>
    cases x2 with
    | true =>
     have e1:=FA.out.2.1 rfl
     have e2:=FB.out.2.1
     have e3:IntKind.u8.wrap (((fn 1:Nat):Int)+2)=((fn 2:Nat):Int):=by rw[IntWalk.u8_in _ (by omega)];omega
     clear e1 e2
     go_wp2_with fail
     go_meet;exact⟨rfl,hs⟩
    | false =>
     have e1:=Lib.hid (FO.out.2.1 rfl)
     go_wp2_with fail
     go_meet;exact⟨by first|(rw[e1.out])|(rw[e1.out];rfl),hs⟩
   case rest =>
    clear hs
    obtain⟨rfl,hs⟩:=hcut
    rename World=>w
    go_upto_if 51 with (first|((with_reducible refine Se.iL 51 ?_);(refine Se.Ld hs rfl rfl (Cell.blk 1 rfl P1.out) ?_)))
    (try simp only[pU])
    go_cut [11] (fun s11 wx=>s11=.int .u8 ((fn 3:Nat):Int)/\St w0 X ([.blk g3 54 F,.blk g2 65 PL]++L) wx)
    case first =>
     cases x3 with
     | true =>
      have e1:=FA.out.2.2.1 rfl
      have e2:=FB.out.2.2.1
      have e3:IntKind.u8.wrap (((fn 2:Nat):Int)+4)=((fn 3:Nat):Int):=by rw[IntWalk.u8_in _ (by omega)];omega
      clear e1 e2
      go_wp2_with fail
      go_meet;exact⟨rfl,hs⟩
     | false =>
      have e1:=Lib.hid (FO.out.2.2.1 rfl)
      go_wp2_with fail
      go_meet;exact⟨by first|(rw[e1.out])|(rw[e1.out];rfl),hs⟩
    case rest =>
     clear hs
     obtain⟨rfl,hs⟩:=hcut
     rename World=>w
     go_upto_if 55 with (first|((with_reducible refine Se.iL 55 ?_);(refine Se.Ld hs rfl rfl (Cell.blk 1 rfl P2.out) ?_)))
     (try simp only[pU])
     go_cut [11] (fun s11 wx=>s11=.int .u8 ((fn 4:Nat):Int)/\St w0 X ([.blk g3 54 F,.blk g2 65 PL]++L) wx)
     case first =>
      cases x4 with
      | true =>
       have e1:=FA.out.2.2.2 rfl
       have e2:=FB.out.2.2.2
       have e3:IntKind.u8.wrap (((fn 3:Nat):Int)+8)=((fn 4:Nat):Int):=by rw[IntWalk.u8_in _ (by omega)];omega
       clear e1 e2
       go_wp2_with fail
       go_meet;exact⟨rfl,hs⟩
      | false =>
       have e1:=Lib.hid (FO.out.2.2.2 rfl)
       go_wp2_with fail
       go_meet;exact⟨by first|(rw[e1.out])|(rw[e1.out];rfl),hs⟩
     case rest =>
      clear hs
      obtain⟨rfl,hs⟩:=hcut
      rename World=>w
      have FGB:=FB.out.2.2.2
      rw[<-FG.out] at FGB ⊢
      have hn32:n<=2000000:=by rw[NE.out];split <;> omega
      have c1:(k:Int)=n8 kb:=HNK.out.symm
      have c2:(fg:Int)=n8 (BitVec.ofNat 8 fg):=(n8_nat (by omega)).symm
      have c3:IntKind.u8.wrap (q:Int)=n8 (BitVec.ofNat 8 q):=by rw[IntWalk.u8_in _ (by omega)];exact(n8_nat (by omega)).symm
      have c4:IntKind.u8.wrap (at0:Int)=n8 (BitVec.ofNat 8 at0):=by rw[Bv.wrap_n8_of,BitVec.ofInt_natCast]
      have c5:IntKind.u32.wrap (n:Int)=n32 (BitVec.ofNat 32 n):=by rw[Bv.wrap_n32_of,BitVec.ofInt_natCast]
      have c6:IntKind.u8.wrap (k:Int)=n8 kb:=by rw[IntWalk.u8_in _ (by omega)];exact c1
      rw[c2];clear c1 c2 FA FO F0 FB hx1 hx2
      go_upto_region 17 with (fail)
      have HSR:=Lib.hid (show ∀ wx,Hv.Ext w wx->St w0 X ([.blk g3 54 F,.blk g2 65 PL]++L) wx from fun wx hS=>hs.ext hS)
      go_cut [12] (fun s12 wx=>∃ r A c,s12=.slice A q c/\St w0 X ([.own 1 r A q c (HD.map v8),.blk g3 54 F,.blk g2 65 PL]++L) wx)
      case first =>
       refine Hv.grow 17 (fun|4=>some (Hv.con (iv q))|8=>some (Hv.row [v8 kb,v8 (BitVec.ofNat 8 fg),v8 (BitVec.ofNat 8 q),v8 (BitVec.ofNat 8 at0)] 5)|11=>some (Nown w 4 ((numL (BitVec.ofNat 32 n) 4).map v8))|13=>some (Nrd sp.length (sp.map v8))|14=>some (Nparts 3 HD)|15=>some (Nown w q (HD.map v8))|_=>none) (fun|14=>[[8,14],[11,14],[13,14]]|15=>[[14,15]]|_=>[]) (by kernel_rfl) (by kernel_rfl) ?_ ?_
       ·intro i m hm v wa wb hR hv
        split at hm <;> first|cases hm|skip
        all_goals first|exact Hv.row_st hR hv|exact Hv.con_st hR hv|exact Nown_st hR hv|exact Nrd_st hR hv|exact Nparts_st hR hv
       ·change Hv.HW _ _ _ _ _ _ _ [0,1,2,3,4,5,6,7,8,9,10,11,12,13,14,15,16] _ _
        iterate 4 (refine Hv.pA ?_;(try simp only[pU]))
        refine Hv.noise (m:=_) (by rfl) (by rfl) (by rfl) (Hv.con_ex _) (fun wx hS hf=>?_) (fun v hv=>?_)
        ·unfold Hv.Gives
         go_simp
         refine(CHA.out wx).mono ?_;rintro e w' ⟨rfl,hb⟩;exact⟨_,rfl,hb,rfl,trivial⟩
        obtain rfl:=hv
        (try simp only[pU])
        iterate 3 (refine Hv.pA ?_;(try simp only[pU]))
        refine Hv.noise (m:=_) (by rfl) (by rfl) (by rfl) (Hv.row_ex _ _) (fun wx hS hf=>?_) (fun v hv=>?_)
        ·unfold Hv.Gives
         go_simp
         exact Hv.row_new wx [v8 kb,v8 (BitVec.ofNat 8 fg),v8 (BitVec.ofNat 8 q),v8 (BitVec.ofNat 8 at0)] 5
        obtain⟨b8,rfl⟩:=hv
        (try simp only[pU])
        iterate 2 (refine Hv.pA ?_;(try simp only[pU]))
        refine Hv.noise (m:=_) (by rfl) (by rfl) (by rfl) (Nown_ex _ _ _) (fun wx hS hf=>?_) (fun v hv=>?_)
        ·refine Se.gcall (f:=81) (args:=#[.int .u32 (n32 (BitVec.ofNat 32 n)),.int .i64 4]) ?_ ?_
         ·go_simp
         refine Calls.mono (little_any wx (BitVec.ofNat 32 n) 4 (by omega)) ?_;rintro e w' ⟨r,B,c,rfl,hn⟩;exact⟨_,rfl,Nown_new hS hn⟩
        obtain⟨A11,c11,rfl⟩:=hv
        (try simp only[pU])
        iterate 1 ((first|refine Hv.pA ?_|refine Hv.pE (hv:=fun wx hS=>Se.xR (hr:=(Li.Rd.of_blk ((hs.ext hS).hold (.blk g2 65 PL) (by simp)))) (hi:=(by rw[PLL.out] <;> kernel_rfl))) (h:=?_));(try simp only[pU]))
        refine Hv.noise (m:=_) (by rfl) (by rfl) (by rfl) (Nrd_ex _ _) (fun wx hS hf=>?_) (fun v hv=>?_)
        ·refine Se.gcall (f:=82) (args:=#[.agg PL.toArray]) ?_ ?_
         ·go_simp
         refine Calls.mono (CSP.out wx ((HE.out.app [.blk g3 54 F,.blk g2 65 PL]) wx (hs.ext hS).hold)) ?_;rintro e w' ⟨A,c,rfl,hr,hb⟩;exact⟨_,rfl,hb,⟨A,c,rfl⟩,fun A' c' e=>by cases e;exact hr⟩
        obtain⟨A13,c13,rfl⟩:=hv
        (try simp only[pU]);refine Hv.noise (m:=_) (by rfl) (by rfl) (by rfl) (Nparts_ex _ _) (fun wx hS hf=>?_) (fun v hv=>?_)
        ·have f8:=hf _ (List.mem_cons_of_mem _ (List.mem_cons_of_mem _ (List.mem_cons_self))) ⟨[8,14],by simp,rfl⟩
         have f11:=hf _ (List.mem_cons_of_mem _ (List.mem_cons_self)) ⟨[11,14],by simp,rfl⟩
         have f13:=hf _ (List.mem_cons_self) ⟨[13,14],by simp,rfl⟩
         exact Nparts_bs wx ([⟨some ⟨b8,0,none⟩,4,[kb,BitVec.ofNat 8 fg,BitVec.ofNat 8 q,BitVec.ofNat 8 at0]⟩,⟨A11,c11,numL (BitVec.ofNat 32 n) 4⟩,⟨A13,c13,sp⟩]) rfl (by rfl) (by rfl) (by decide) (by decide) (by simp only[List.forall_mem_cons,List.not_mem_nil,false_imp_iff,implies_true,and_true];exact⟨row_rd f8,Nown_rd f11,f13 A13 c13 rfl⟩) (by rw[flat3];exact HDE.out _ _ _ rfl rfl rfl)
        obtain⟨b14,rfl⟩:=hv
        (try simp only[pU]);refine Hv.noise (m:=_) (by rfl) (by rfl) (by rfl) (Nown_ex _ _ _) (fun wx hS hf=>?_) (fun v hv=>?_)
        ·have f14:=hf _ (List.mem_cons_self) ⟨[14,15],by simp,rfl⟩
         refine Se.gcall (f:=80) (args:=#[.slice (some ⟨b14,0,none⟩) 3 3]) ?_ ?_
         ·go_simp
         refine Calls.mono (join_np wx f14 HDL.out (by omega) (by omega)) ?_;rintro e w' ⟨r,B,c,rfl,hn⟩;exact⟨_,rfl,Nown_new hS hn⟩
        obtain⟨A,c,rfl⟩:=hv
        (try simp only[pU])
        iterate 1 (refine Hv.pA ?_;(try simp only[pU]))
        refine Hv.done (fun wx hS hf=>?_)
        obtain⟨rr,kk⟩:=hf _ (List.mem_cons_self) _ _ rfl
        replace hs:=hs.join kk (by simp[At.noRd]);clear kk hf hS;simp only[List.cons_append,List.nil_append] at hs;simp only[List.drop_succ_cons,List.drop_nil,List.drop_zero]
        go_wp2_with fail
        go_meet;exact⟨rr,A,c,rfl,hs⟩
      case rest =>
       clear hs HSR CHA CSP HDE c3 c4 c5 c6
       obtain⟨r,A,c,rfl,hs⟩:=hcut
       rename World=>w
       obtain⟨H2,hH2⟩:∃ H2,H2=HD++(if 0<h then numL (crc HD) 4 else []):=⟨_,rfl⟩
       obtain⟨m2,hm2⟩:∃ m2,m2=H2.length:=⟨_,rfl⟩
       have M2:Hid (m2=q+if 0<h then 4 else 0):=Lib.hid (by rw[hm2,hH2,List.length_append,<-HDL.out];split <;> simp[numL_length])
       have HM2:=Lib.hid hm2
       have HH2:=Lib.hid hH2
       clear hm2 hH2
       go_upto_if 75 with (fail)
       go_cut [12] (fun s12 wx=>∃ r A c,s12=.slice A m2 c/\St w0 X ([.own 1 r A m2 c (H2.map v8),.blk g3 54 F,.blk g2 65 PL]++L) wx)
       case first =>
        by_cases h0:0<h
        ·have e1:=M2.out
         have e2:=HH2.out
         rw[if_pos h0] at e1 e2
         have E1:=Lib.hid e1
         have E2:=Lib.hid e2
         clear e1 e2
         go_wp2_with (first|((with_reducible refine Se.iL 80 ?_);(refine Se.toL rfl (Se.ap (o:=⟨some 80,_,_,_,_,_⟩) 1 hs rfl rfl rfl rfl (Reads.own 0 rfl) Tryz.underlying24 u8i3 rfl (by decide) (v8_one _) (by rw[List.length_map,numL_length]) (by omega) (by omega) ?_);clear hs;rintro w r' A' c' hs;try simp only[pS] at hs))|(go_at_call 83;refine Calls.mono (rcrc_st hs HD HDL.out (Reads.own 0 rfl) (by omega)) ?_;clear hs;rintro e w ⟨rfl,hs⟩)|(go_at_call 81;refine Calls.mono (rLittle_st hs (crc HD) 4 (by omega)) ?_;clear hs;rintro e w ⟨r2,A2,c2,rfl,hs⟩))
         go_meet;refine⟨r',A',c',by rw[E1.out],?_⟩;rw[E2.out,List.map_append,E1.out];exact hs.drop
        ·have e1:=M2.out
         have e2:=HH2.out
         rw[if_neg h0,Nat.add_zero] at e1;rw[if_neg h0,List.append_nil] at e2
         have E1:=Lib.hid e1
         have E2:=Lib.hid e2
         clear e1 e2
         have h0':h=0:=by omega
         subst h0'
         go_wp2_with fail
         go_meet;exact⟨r,A,c,by rw[E1.out],by rw[E2.out,E1.out];exact hs⟩
       case rest =>
        clear hs
        obtain⟨r,A,c,rfl,hs⟩:=hcut
        rename World=>w
        have hm2:m2<=140:=by rw[M2.out];split <;> omega
        obtain⟨z,hz⟩:∃ z,z=at0-m2:=⟨_,rfl⟩
        have HZ:=Lib.hid hz
        have FE:Hid ((H2++zs z)++p.da++(if 0<d then numL (crc p.da) 4 else [])=enc p f):=Lib.hid (by rw[hz,HM2.out];exact FINR.out H2 HH2.out)
        clear hz
        go_wp2_with fail
        go_loopg [12] z (fun gh s12 wr=>∃ i r A c,gh=z-i/\i<=z/\s12=.slice A (m2+i) c/\St w0 X ([.own 1 r A (m2+i) c ((H2++zs i).map v8),.blk g3 54 F,.blk g2 65 PL]++L) wr)
        case atStart=>exact⟨0,r,A,c,rfl,by omega,rfl,by simpa [zs] using hs⟩
        case round =>
         clear hs
         rename World=>w
         obtain⟨i,r,A,c,rfl,hi,rfl,hs⟩:=hrel
         by_cases hlt:i<z
         ·have h1:(((m2+i:Nat):Int)<(at0:Int)):=by have:=HZ.out;omega
          have h1':((m2:Int)+(i:Int)<(at0:Int)):=by have:=HZ.out;omega
          have h2:m2+i<at0:=by have:=HZ.out;omega
          have hzl:z<=260:=by have:=HZ.out;omega
          go_wp2_with (first|((with_reducible refine Se.iL 86 ?_);(refine Se.toL rfl (Se.bsv (o:=⟨some 86,_,_,_,_,_⟩) hs rfl Tryz.underlying24 u8i rfl ([.int .u8 0]) (by rfl) (by rfl) (by decide) (by decide) (by simp[Value.oneCell']) ?_);clear hs;rintro w g86-hs))|((with_reducible refine Se.iL 87 ?_);(refine Se.toL rfl (Se.ap (o:=⟨some 87,_,_,_,_,_⟩) 1 hs rfl rfl rfl rfl (Reads.blk 0 rfl) Tryz.underlying24 u8i3 rfl (by decide) (by simp[Value.oneCell']) (by rfl) (by omega) (by omega) ?_);clear hs;rintro w r' A' c' hs;try simp only[pS] at hs)))
          go_roundg (z-(i+1))
          case measure=>omega
          case rel =>
           refine⟨i+1,r',A',c',rfl,by omega,rfl,?_⟩
           have e:(H2++zs (i+1)).map v8=(H2++zs i).map v8++[.int .u8 0]:=by
            rw[zs,List.replicate_succ'];simp[v8,n8]
           rw[e];exact hs.drop
         ·have hz2:i=z:=by omega
          subst hz2
          have h1:¬ (((m2+i:Nat):Int)<(at0:Int)):=by have:=HZ.out;omega
          have h1':¬ ((m2:Int)+(i:Int)<(at0:Int)):=by have:=HZ.out;omega
          have h2:¬ m2+i<at0:=by have:=HZ.out;omega
          have hzl:i<=260:=by have:=HZ.out;omega
          clear hlt hi
          obtain⟨H3,hH3⟩:∃ H3,H3=H2++zs i++p.da:=⟨_,rfl⟩
          obtain⟨m3,hm3⟩:∃ m3,m3=H3.length:=⟨_,rfl⟩
          have M3:Hid (m2+i+dn=m3):=Lib.hid (by rw[hm3,hH3];simp only[List.length_append,List.length_replicate];rw[HDN.out,HM2.out])
          have HH3:=Lib.hid hH3
          have HM3:=Lib.hid hm3
          clear hm3 hH3
          go_upto_if 93 with (first|((with_reducible refine Se.iL 90 ?_);(refine Se.Ld hs rfl rfl (Cell.blk 2 rfl P13.out) ?_))|((with_reducible refine Se.iL 91 ?_);(refine Se.toL rfl (Se.ap (o:=⟨some 91,_,_,_,_,_⟩) 0 hs rfl rfl rfl rfl (HDD.out.app [_,_,_]) Tryz.underlying24 u8i3 rfl (by decide) (v8_one _) (by rw[List.length_map,HDN.out,Nat.mul_one]) (by omega) (by omega) ?_);clear hs;rintro w r' A' c' hs;try simp only[pS] at hs)))
          rw[M3.out] at hs ⊢
          replace hs:St w0 X (.own 1 r' A' m3 c' (H3.map v8)::[.blk g3 54 F,.blk g2 65 PL]++L) w:=by rw[HH3.out,List.map_append];exact hs
          have m3l:m3<=1060000:=by rw[<-M3.out];omega
          clear h1 h1' h2 hzl
          have FE2:Hid (H3++(if 0<d then numL (crc p.da) 4 else [])=enc p f):=Lib.hid (by rw[HH3.out];exact FE.out)
          by_cases h0:0<d
          ·have e2:=FE2.out
           rw[if_pos h0] at e2
           have e1:m=m3+4:=by rw[HM.out,<-e2,List.length_append,numL_length,HM3.out]
           have E1:=Lib.hid e1
           have E2:=Lib.hid e2
           clear e1 e2
           go_wp2_with (first|((with_reducible refine Se.iL 96 ?_);(refine Se.Ld hs rfl rfl (Cell.blk 2 rfl P13.out) ?_))|((with_reducible refine Se.iL 99 ?_);(refine Se.toL rfl (Se.ap (o:=⟨some 99,_,_,_,_,_⟩) 1 hs rfl rfl rfl rfl (Reads.own 0 rfl) Tryz.underlying24 u8i3 rfl (by decide) (v8_one _) (by rw[List.length_map,numL_length]) (by omega) (by omega) ?_);clear hs;rintro w r2' A2' c2' hs;try simp only[pS] at hs))|(go_at_call 83;refine Calls.mono (rcrc_st hs p.da HDN.out.symm (HDD.out.app [_,_,_]) (by omega)) ?_;clear hs;rintro e w ⟨rfl,hs⟩)|(go_at_call 81;refine Calls.mono (rLittle_st hs (crc p.da) 4 (by omega)) ?_;clear hs;rintro e w ⟨r2,A2,c2,rfl,hs⟩))
           go_ret;refine⟨r2',A2',c2',by rw[E1.out];rfl,?_⟩;rw[<-E2.out,List.map_append,E1.out];exact hs.drop.sub (List.Sublist.cons_cons _ (.cons _ (.cons _ (List.Sublist.refl _))))
          ·have e2:=FE2.out
           rw[if_neg h0,List.append_nil] at e2
           have e1:m=m3:=by rw[HM.out,<-e2,HM3.out]
           have E1:=Lib.hid e1
           have E2:=Lib.hid e2
           clear e1 e2
           have h0':d=0:=by omega
           subst h0'
           go_wp2_with fail
           go_ret;refine⟨r',A',c',by rw[E1.out];rfl,?_⟩;rw[<-E2.out,E1.out];exact hs.sub (List.Sublist.cons_cons _ (.cons _ (.cons _ (List.Sublist.refl _))))
end Pd
end Go.Proofs.YtjnllcnknjlmmaaGreat
