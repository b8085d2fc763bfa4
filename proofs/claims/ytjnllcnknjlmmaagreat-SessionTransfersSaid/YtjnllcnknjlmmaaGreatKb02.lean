/- Layer 41. -/
import Derived.Test.YtjnllcnknjlmmaaGreatKb01
set_option linter.unusedSimpArgs false
set_option linter.unusedVariables false
set_option maxRecDepth 100000
set_option maxHeartbeats 4000000
namespace Go.Proofs.YtjnllcnknjlmmaaGreat
open Go Go.RowKit
namespace Pd
open Se (St At Cell)
open Li (Rd Blk)
open Bv (n8 n16 n32)
variable {w0 w:World} {X:List Nat} {L:List At}
attribute [local irreducible] Calls
attribute [local go_sem] Gd.mv_true Gd.pk_or Gd.pk_and Gd.pk_true Gd.pk_false
def val1(q mo dn:Nat)(on:Bool):Bool:=(q:Int)==0 || decide (mo<dn) || !on
theorem val1_eq(p:PDU):valid p=(!val1 (hdr p.h.k.toNat) (most p.h.k.toNat) p.da.length (only p)&&own p):=by
 unfold valid val1
 have e:((hdr p.h.k.toNat:Int)==0)=decide (hdr p.h.k.toNat=0):=by rw[Bool.eq_iff_iff];simp
 have e2:decide (most p.h.k.toNat<p.da.length) = !decide (p.da.length<=most p.h.k.toNat):=by
  rw[Bool.eq_iff_iff];simp
 rw[e,e2];generalize hdr p.h.k.toNat=q
 by_cases h:q=0 <;> simp[h]
theorem n8_le(x:BitVec 8)(m:Nat):decide (n8 x<=(m:Int))=decide (x.toNat<=m):=by unfold n8;simp only[decide_eq_decide];omega
theorem own_0{p:PDU}(h:0=p.h.k.toNat):own p=(decide (n8 p.h.al<=31)&&decide (n8 p.h.dg<=3)):=by
 unfold own;rw[<-h]
 show decide (p.h.al.toNat<=31/\p.h.dg.toNat<=3)=_
 rw[show decide (n8 p.h.al<=31)=decide (p.h.al.toNat<=31) from n8_le _ 31,show decide (n8 p.h.dg<=3)=decide (p.h.dg.toNat<=3) from n8_le _ 3]
 by_cases h1:p.h.al.toNat<=31 <;> simp[h1]
theorem own_1{p:PDU}(h:1=p.h.k.toNat):own p=(decide (n8 p.h.al<=31)&&decide (n8 p.h.dg<=3)&&decide (4096<=n32 p.h.mx)&&(n32 p.h.mx).tmod 4==0):=by
 unfold own;rw[<-h]
 show decide (p.h.al.toNat<=31/\p.h.dg.toNat<=3/\4096<=p.h.mx.toNat/\p.h.mx.toNat%4=0)=_
 rw[show decide (n8 p.h.al<=31)=decide (p.h.al.toNat<=31) from n8_le _ 31,show decide (n8 p.h.dg<=3)=decide (p.h.dg.toNat<=3) from n8_le _ 3]
 have e1:decide (4096<=n32 p.h.mx)=decide (4096<=p.h.mx.toNat):=by unfold n32;simp only[decide_eq_decide];omega
 have e2:((n32 p.h.mx).tmod 4==0)=decide (p.h.mx.toNat%4=0):=by
  unfold n32;rw[Int.tmod_eq_emod_of_nonneg (by omega),Bool.eq_iff_iff];simp only[beq_iff_eq,decide_eq_true_eq];omega
 rw[e1,e2]
 by_cases h1:p.h.al.toNat<=31 <;> by_cases h2:p.h.dg.toNat<=3 <;> by_cases h3:4096<=p.h.mx.toNat <;> simp[h1,h2,h3]
theorem own_4{p:PDU}(h:4=p.h.k.toNat):own p=((p.en.length:Int)==64):=by
 unfold own;rw[<-h]
 show decide (p.en.length=64)=_
 rw[Bool.eq_iff_iff];simp only[beq_iff_eq,decide_eq_true_eq];omega
theorem own_5{p:PDU}(h:5=p.h.k.toNat):own p=((p.en.length:Int)==16):=by
 unfold own;rw[<-h]
 show decide (p.en.length=16)=_
 rw[Bool.eq_iff_iff];simp only[beq_iff_eq,decide_eq_true_eq];omega
theorem own_6{p:PDU}(h:6=p.h.k.toNat\/7=p.h.k.toNat):own p=decide (0<p.da.length):=by
 unfold own;rcases h with h|h <;> rw[<-h] <;> rfl
theorem own_9{p:PDU}(h:9=p.h.k.toNat):own p=decide (0<n32 p.h.ln):=by
 unfold own;rw[<-h]
 show decide (0<p.h.ln.toNat)=_
 unfold n32;simp only[decide_eq_decide];omega
theorem own_2{p:PDU}(h:2=p.h.k.toNat\/3=p.h.k.toNat):own p=true:=by
 unfold own;rcases h with h|h <;> rw[<-h] <;> rfl
theorem rValid_st(hs:St w0 X L w)(p:PDU){EA DA:Option Addr}{en ec dn dc:Nat}(he:en=p.en.length)(hd:dn=p.da.length){b:Bool}(hb:valid p=b) :
  Calls Tryz.prog 187 #[.agg (pc p.h EA en ec DA dn dc).toArray] w fun e w'=>e=.returned (.bool b)/\St w0 X L w':=by
 obtain⟨k,hk⟩:∃ k,k=p.h.k.toNat:=⟨_,rfl⟩
 have hkl:k<256:=by rw[hk];exact p.h.k.isLt
 have wk:IntKind.i64.wrap (k:Int)=k:=IntWalk.i64_in _ (by omega)
 obtain⟨PL,hP⟩:∃ PL,PL=pc p.h EA en ec DA dn dc:=⟨_,rfl⟩
 have PLL:=Lib.hid (show PL.length=14 by rw[hP];rfl)
 have P0:=Lib.hid (show PL[0]? = some (.int .u8 (k:Int)) by rw[hP,hk];rfl)
 have P1:=Lib.hid (show PL[1]? = some (.bool p.h.la) by rw[hP];rfl)
 have P2:=Lib.hid (show PL[2]? = some (.bool p.h.su) by rw[hP];rfl)
 have P3:=Lib.hid (show PL[3]? = some (.slice EA en ec) by rw[hP];rfl)
 have P4:=Lib.hid (show PL[4]? = some (.int .u16 (n16 p.h.id)) by rw[hP];rfl)
 have P5:=Lib.hid (show PL[5]? = some (.int .u16 (n16 p.h.tg)) by rw[hP];rfl)
 have P6:=Lib.hid (show PL[6]? = some (.int .u32 (n32 p.h.of)) by rw[hP];rfl)
 have P7:=Lib.hid (show PL[7]? = some (.int .u32 (n32 p.h.ln)) by rw[hP];rfl)
 have P8:=Lib.hid (show PL[8]? = some (.int .u8 (n8 p.h.al)) by rw[hP];rfl)
 have P9:=Lib.hid (show PL[9]? = some (.int .u8 (n8 p.h.dg)) by rw[hP];rfl)
 have P10:=Lib.hid (show PL[10]? = some (.int .u32 (n32 p.h.mx)) by rw[hP];rfl)
 have P11:=Lib.hid (show PL[11]? = some (.int .u16 (n16 p.h.st)) by rw[hP];rfl)
 have P12:=Lib.hid (show PL[12]? = some (.int .u32 (n32 p.h.nf)) by rw[hP];rfl)
 have P13:=Lib.hid (show PL[13]? = some (.slice DA dn dc) by rw[hP];rfl)
 obtain⟨q,hq⟩:∃ q,hdr k=q:=⟨_,rfl⟩
 obtain⟨mo,hmo⟩:∃ q,most k=q:=⟨_,rfl⟩
 obtain⟨on,hon⟩:∃ q,only p=q:=⟨_,rfl⟩
 have CH:Hid (∀ (L':List At) (w:World),St w0 X (L'++L) w->Calls Tryz.prog 78 #[.int .i64 (k:Int)] w fun e w'=>e=.returned (iv q)/\St w0 X (L'++L) w'):=Lib.hid (fun L' w hs=>rHeader_st hs k hkl hq)
 have CMO:Hid (∀ (L':List At) (w:World),St w0 X (L'++L) w->Calls Tryz.prog 184 #[.int .i64 (k:Int)] w fun e w'=>e=.returned (iv mo)/\St w0 X (L'++L) w'):=Lib.hid (fun L' w hs=>(rMost_any w k hmo).mono (fun e w' h=>⟨h.1,by rw[h.2];exact hs⟩))
 have CON:Hid (∀ (L':List At) (w:World),St w0 X (L'++L) w->Calls Tryz.prog 217 #[.agg PL.toArray] w fun e w'=>e=.returned (.bool on)/\St w0 X (L'++L) w'):=Lib.hid (fun L' w hs=>by rw[hP,<-hon];exact ronly_st hs p he)
 have HV:Hid ((!val1 q mo dn on&&own p)=b):=Lib.hid (by rw[<-hq,<-hmo,<-hon,hd,hk,<-val1_eq,hb])
 have HE:=Lib.hid he
 have HD:=Lib.hid hd
 have HK:=Lib.hid hk
 have HQ:=Lib.hid hq
 rw[<-hP];clear hP hb hon hmo hq hk he hd
 go_enter Tryz.func187,Tryz.ntmps187
 go_upto_region 2 with (first|((with_reducible refine Se.iL 5 ?_);(refine Se.Ld hs rfl rfl (Cell.blk 0 rfl P0.out) ?_))|((first|with_reducible refine Se.ab hs ?_|with_reducible refine Se.abc hs ?_);clear hs;(first|(generalize w.heap.size=g1;intro w hs))))
 refine Ch.region' 16 (fun wx=>Blk wx g1 PL 65) (fun|1=>true|8=>true|13=>true|_=>false) (by kernel_rfl) (by decide +kernel) (hs.drew.hold (.blk g1 65 PL) (by simp)) ?_;replace hs:=hs.drew;generalize w.drew=w at hs ⊢;change Ch.CW _ _ _ _ _ [0,1,2,3,4,5,6,7,8,9,10,11,12,13,14,15] _ _
 iterate 1 (refine Gd.look (by rfl) ?_;(first|((first|refine Gd.p0 ?_|refine Gd.p1 ?_|refine Gd.b0 ?_|refine Gd.u0 ?_|refine Gd.b1 ?_|refine Gd.u1 ?_);intro _ _)|refine Gd.a0 ?_|refine Gd.a1 ?_);(try simp only[pU]))
 refine Ch.cA (f:=78) (args:=#[.int .i64 (k:Int)]) (CH.out [_] _ hs) ?_;clear hs;rintro e w⟨rfl,hs⟩;refine⟨_,rfl,hs.hold (.blk g1 65 PL) (by simp),?_⟩;(try simp only[pU])
 iterate 6 (refine Gd.look (by rfl) ?_;(first|refine Gd.l0 (hv:=fun wx hS=>Se.xL (hc:=by rw[(hS).cell];first|exact P13.out)) (h:=?_)|refine Gd.l1 (hv:=fun hb0 wx hS=>Se.xL (hc:=by rw[(hS).cell];first|exact P13.out) (hx:=by exact Gd.mv_of hb0)) (h:=?_)|refine Gd.l1 (hv:=fun hb0 wx hS=>Se.xL (hc:=by rw[(hS).cell];first|exact P13.out)) (h:=?_)|((first|refine Gd.p0 ?_|refine Gd.p1 ?_|refine Gd.b0 ?_|refine Gd.u0 ?_|refine Gd.b1 ?_|refine Gd.u1 ?_);intro _ _)|refine Gd.a0 ?_|refine Gd.a1 ?_);(try simp only[pU]))
 refine Gd.gn (v:=iv mo) (by rfl) (by rfl) (by first|exact Gd.want_t rfl rfl rfl|exact Gd.want_f rfl rfl rfl|exact Gd.want_mt rfl rfl rfl|exact Gd.want_mf rfl rfl rfl) hs (fun hb=>?_) (fun w hT=>?_)
 ·(try simp only[Bool.and_eq_true] at hb)
  refine Se.gcall (f:=184) (args:=#[.int .i64 (k:Int)]) ?_ ?_
  ·go_simp
  refine Calls.mono (CMO.out [_] _ hs) ?_;clear hs;rintro e w⟨rfl,hs⟩;exact⟨_,rfl,rfl,hs⟩
 clear hs
 have hs:=hT
 clear hT;refine⟨hs.hold (.blk g1 65 PL) (by simp),?_⟩;(try simp only[pU])
 iterate 4 (refine Gd.look (by rfl) ?_;(first|refine Gd.l0 (v:=.agg PL.toArray) (hv:=fun wx hS=>Se.xla (by rfl) (by rfl) (Li.Rd.of_blk hS) (by rw[PLL.out] <;> kernel_rfl) (by kernel_rfl)) (h:=?_)|refine Gd.l1 (v:=.agg PL.toArray) (hv:=fun hb0 wx hS=>Se.xla (by rfl) (by rfl) (Li.Rd.of_blk hS) (by rw[PLL.out] <;> kernel_rfl) (by kernel_rfl)) (h:=?_)|((first|refine Gd.p0 ?_|refine Gd.p1 ?_|refine Gd.b0 ?_|refine Gd.u0 ?_|refine Gd.b1 ?_|refine Gd.u1 ?_);intro _ _)|refine Gd.a0 ?_|refine Gd.a1 ?_);(try simp only[pU]))
 refine Gd.gn (v:=.bool on) (by rfl) (by rfl) (by first|exact Gd.want_t rfl rfl rfl|exact Gd.want_f rfl rfl rfl|exact Gd.want_mt rfl rfl rfl|exact Gd.want_mf rfl rfl rfl) hs (fun hb=>?_) (fun w hT=>?_)
 ·(try simp only[Bool.and_eq_true] at hb)
  refine Se.gcall (f:=217) (args:=#[.agg PL.toArray]) ?_ ?_
  ·go_simp
  refine Calls.mono (CON.out [_] _ hs) ?_;clear hs;rintro e w⟨rfl,hs⟩;exact⟨_,rfl,rfl,hs⟩
 clear hs
 have hs:=hT
 clear hT;refine⟨hs.hold (.blk g1 65 PL) (by simp),?_⟩;(try simp only[pU])
 iterate 2 (refine Gd.look (by rfl) ?_;(first|((first|refine Gd.p0 ?_|refine Gd.p1 ?_|refine Gd.b0 ?_|refine Gd.u0 ?_|refine Gd.b1 ?_|refine Gd.u1 ?_);intro _ _)|refine Gd.a0 ?_|refine Gd.a1 ?_);(try simp only[pU]))
 refine Ch.done ?_
 try simp only[List.drop_succ_cons,List.drop_zero]
 go_upto_region 4 with (fail)
 ·have h1:val1 q mo dn on=true:=by
   unfold Hid at *
   subst_vars
   first|assumption|(symm;assumption)
  obtain rfl:b=false:=by rw[<-HV.out,h1];rfl
  go_ret;exact⟨rfl,hs.drop⟩
 have hv1:=Lib.hid (show val1 q mo dn on=false by
  unfold Hid at *
  subst_vars
  first|assumption|(symm;assumption))
 obtain rfl:own p=b:=by rw[<-HV.out,hv1.out];rfl
 have hk:k=0\/k=1\/k=2\/k=3\/k=4\/k=5\/k=6\/k=7\/k=9:=by
  have h0:hdr k≠0:=by
   intro h0
   have hq0:q=0:=by rw[<-HQ.out];exact h0
   have h1:val1 q mo dn on=true:=by unfold val1;rw[hq0];simp
   rw[hv1.out] at h1;cases h1
  unfold hdr at h0
  split at h0 <;> first|omega|(exact absurd rfl h0)
 clear HQ hv1 HV
 have HK:=HK.out
 rcases hk with rfl|rfl|rfl|rfl|rfl|rfl|rfl|rfl|rfl
 all_goals replace HK:=Lib.hid HK
 ·have HO:=Lib.hid (own_0 HK.out)
  go_upto_region 6 with (fail)
  refine Gd.plain 9 (fun wx=>Blk wx g1 PL 65) (fun |_=>false) rfl (hs.hold (.blk g1 65 PL) (by simp)) ?_;change Ch.CW _ _ _ _ _ [0,1,2,3,4,5,6,7,8] _ _
  iterate 9 (refine Gd.look (by rfl) ?_;(first|refine Gd.l0 (hv:=fun wx hS=>Se.xL (hc:=by rw[(hS).cell];first|exact P8.out|exact P9.out)) (h:=?_)|refine Gd.l1 (hv:=fun hb0 wx hS=>Se.xL (hc:=by rw[(hS).cell];first|exact P8.out|exact P9.out) (hx:=by exact Gd.mv_of hb0)) (h:=?_)|refine Gd.l1 (hv:=fun hb0 wx hS=>Se.xL (hc:=by rw[(hS).cell];first|exact P8.out|exact P9.out)) (h:=?_)|((first|refine Gd.p0 ?_|refine Gd.p1 ?_|refine Gd.b0 ?_|refine Gd.u0 ?_|refine Gd.b1 ?_|refine Gd.u1 ?_);intro _ _)|refine Gd.a0 ?_|refine Gd.a1 ?_);(try simp only[pU]))
  refine Ch.done ?_
  go_wp2_with fail
  go_ret;refine⟨congrArg (fun b=>Ending.returned (.bool b)) ?_,hs.drop⟩;rw[HO.out]
  all_goals
   unfold Hid at *
   subst_vars
   rfl
 ·have HO:=Lib.hid (own_1 HK.out)
  go_upto_region 8 with (fail)
  refine Gd.plain 20 (fun wx=>Blk wx g1 PL 65) (fun |_=>false) rfl (hs.hold (.blk g1 65 PL) (by simp)) ?_;change Ch.CW _ _ _ _ _ [0,1,2,3,4,5,6,7,8,9,10,11,12,13,14,15,16,17,18,19] _ _
  iterate 20 (refine Gd.look (by rfl) ?_;(first|refine Gd.l0 (hv:=fun wx hS=>Se.xL (hc:=by rw[(hS).cell];first|exact P8.out|exact P9.out|exact P10.out)) (h:=?_)|refine Gd.l1 (hv:=fun hb0 wx hS=>Se.xL (hc:=by rw[(hS).cell];first|exact P8.out|exact P9.out|exact P10.out) (hx:=by exact Gd.mv_of hb0)) (h:=?_)|refine Gd.l1 (hv:=fun hb0 wx hS=>Se.xL (hc:=by rw[(hS).cell];first|exact P8.out|exact P9.out|exact P10.out)) (h:=?_)|((first|refine Gd.p0 ?_|refine Gd.p1 ?_|refine Gd.b0 ?_|refine Gd.u0 ?_|refine Gd.b1 ?_|refine Gd.u1 ?_);intro _ _)|refine Gd.a0 ?_|refine Gd.a1 ?_);(try simp only[pU]))
  refine Ch.done ?_
  go_wp2_with fail
  go_ret;refine⟨congrArg (fun b=>Ending.returned (.bool b)) ?_,hs.drop⟩;rw[HO.out]
  all_goals
   unfold Hid at *
   subst_vars
   rfl
 ·have HO:=Lib.hid (own_2 (.inl HK.out))
  go_wp2_with fail
  go_ret;refine⟨congrArg (fun b=>Ending.returned (.bool b)) ?_,hs.drop⟩;rw[HO.out]
  all_goals
   unfold Hid at *
   subst_vars
   rfl
 ·have HO:=Lib.hid (own_2 (.inr HK.out))
  go_wp2_with fail
  go_ret;refine⟨congrArg (fun b=>Ending.returned (.bool b)) ?_,hs.drop⟩;rw[HO.out]
  all_goals
   unfold Hid at *
   subst_vars
   rfl
 ·have HO:=Lib.hid (own_4 HK.out)
  go_upto_region 10 with (fail)
  refine Gd.plain 5 (fun wx=>Blk wx g1 PL 65) (fun |_=>false) rfl (hs.hold (.blk g1 65 PL) (by simp)) ?_;change Ch.CW _ _ _ _ _ [0,1,2,3,4] _ _
  iterate 5 (refine Gd.look (by rfl) ?_;(first|refine Gd.l0 (hv:=fun wx hS=>Se.xL (hc:=by rw[(hS).cell];first|exact P3.out)) (h:=?_)|refine Gd.l1 (hv:=fun hb0 wx hS=>Se.xL (hc:=by rw[(hS).cell];first|exact P3.out) (hx:=by exact Gd.mv_of hb0)) (h:=?_)|refine Gd.l1 (hv:=fun hb0 wx hS=>Se.xL (hc:=by rw[(hS).cell];first|exact P3.out)) (h:=?_)|((first|refine Gd.p0 ?_|refine Gd.p1 ?_|refine Gd.b0 ?_|refine Gd.u0 ?_|refine Gd.b1 ?_|refine Gd.u1 ?_);intro _ _)|refine Gd.a0 ?_|refine Gd.a1 ?_);(try simp only[pU]))
  refine Ch.done ?_
  go_wp2_with fail
  go_ret;refine⟨congrArg (fun b=>Ending.returned (.bool b)) ?_,hs.drop⟩;rw[HO.out]
  all_goals
   unfold Hid at *
   subst_vars
   rfl
 ·have HO:=Lib.hid (own_5 HK.out)
  go_upto_region 12 with (fail)
  refine Gd.plain 5 (fun wx=>Blk wx g1 PL 65) (fun |_=>false) rfl (hs.hold (.blk g1 65 PL) (by simp)) ?_;change Ch.CW _ _ _ _ _ [0,1,2,3,4] _ _
  iterate 5 (refine Gd.look (by rfl) ?_;(first|refine Gd.l0 (hv:=fun wx hS=>Se.xL (hc:=by rw[(hS).cell];first|exact P3.out)) (h:=?_)|refine Gd.l1 (hv:=fun hb0 wx hS=>Se.xL (hc:=by rw[(hS).cell];first|exact P3.out) (hx:=by exact Gd.mv_of hb0)) (h:=?_)|refine Gd.l1 (hv:=fun hb0 wx hS=>Se.xL (hc:=by rw[(hS).cell];first|exact P3.out)) (h:=?_)|((first|refine Gd.p0 ?_|refine Gd.p1 ?_|refine Gd.b0 ?_|refine Gd.u0 ?_|refine Gd.b1 ?_|refine Gd.u1 ?_);intro _ _)|refine Gd.a0 ?_|refine Gd.a1 ?_);(try simp only[pU]))
  refine Ch.done ?_
  go_wp2_with fail
  go_ret;refine⟨congrArg (fun b=>Ending.returned (.bool b)) ?_,hs.drop⟩;rw[HO.out]
  all_goals
   unfold Hid at *
   subst_vars
   rfl
 ·have HO:=Lib.hid (own_6 (.inl HK.out))
  go_upto_region 15 with (fail)
  refine Gd.plain 5 (fun wx=>Blk wx g1 PL 65) (fun |_=>false) rfl (hs.hold (.blk g1 65 PL) (by simp)) ?_;change Ch.CW _ _ _ _ _ [0,1,2,3,4] _ _
  iterate 5 (refine Gd.look (by rfl) ?_;(first|refine Gd.l0 (hv:=fun wx hS=>Se.xL (hc:=by rw[(hS).cell];first|exact P13.out)) (h:=?_)|refine Gd.l1 (hv:=fun hb0 wx hS=>Se.xL (hc:=by rw[(hS).cell];first|exact P13.out) (hx:=by exact Gd.mv_of hb0)) (h:=?_)|refine Gd.l1 (hv:=fun hb0 wx hS=>Se.xL (hc:=by rw[(hS).cell];first|exact P13.out)) (h:=?_)|((first|refine Gd.p0 ?_|refine Gd.p1 ?_|refine Gd.b0 ?_|refine Gd.u0 ?_|refine Gd.b1 ?_|refine Gd.u1 ?_);intro _ _)|refine Gd.a0 ?_|refine Gd.a1 ?_);(try simp only[pU]))
  refine Ch.done ?_
  go_wp2_with fail
  go_ret;refine⟨congrArg (fun b=>Ending.returned (.bool b)) ?_,hs.drop⟩;rw[HO.out]
  all_goals
   unfold Hid at *
   subst_vars
   rfl
 ·have HO:=Lib.hid (own_6 (.inr HK.out))
  go_upto_region 15 with (fail)
  refine Gd.plain 5 (fun wx=>Blk wx g1 PL 65) (fun |_=>false) rfl (hs.hold (.blk g1 65 PL) (by simp)) ?_;change Ch.CW _ _ _ _ _ [0,1,2,3,4] _ _
  iterate 5 (refine Gd.look (by rfl) ?_;(first|refine Gd.l0 (hv:=fun wx hS=>Se.xL (hc:=by rw[(hS).cell];first|exact P13.out)) (h:=?_)|refine Gd.l1 (hv:=fun hb0 wx hS=>Se.xL (hc:=by rw[(hS).cell];first|exact P13.out) (hx:=by exact Gd.mv_of hb0)) (h:=?_)|refine Gd.l1 (hv:=fun hb0 wx hS=>Se.xL (hc:=by rw[(hS).cell];first|exact P13.out)) (h:=?_)|((first|refine Gd.p0 ?_|refine Gd.p1 ?_|refine Gd.b0 ?_|refine Gd.u0 ?_|refine Gd.b1 ?_|refine Gd.u1 ?_);intro _ _)|refine Gd.a0 ?_|refine Gd.a1 ?_);(try simp only[pU]))
  refine Ch.done ?_
  go_wp2_with fail
  go_ret;refine⟨congrArg (fun b=>Ending.returned (.bool b)) ?_,hs.drop⟩;rw[HO.out]
  all_goals
   unfold Hid at *
   subst_vars
   rfl
 ·have HO:=Lib.hid (own_9 HK.out)
  go_upto_region 17 with (fail)
  refine Gd.plain 4 (fun wx=>Blk wx g1 PL 65) (fun |_=>false) rfl (hs.hold (.blk g1 65 PL) (by simp)) ?_;change Ch.CW _ _ _ _ _ [0,1,2,3] _ _
  iterate 4 (refine Gd.look (by rfl) ?_;(first|refine Gd.l0 (hv:=fun wx hS=>Se.xL (hc:=by rw[(hS).cell];first|exact P7.out)) (h:=?_)|refine Gd.l1 (hv:=fun hb0 wx hS=>Se.xL (hc:=by rw[(hS).cell];first|exact P7.out) (hx:=by exact Gd.mv_of hb0)) (h:=?_)|refine Gd.l1 (hv:=fun hb0 wx hS=>Se.xL (hc:=by rw[(hS).cell];first|exact P7.out)) (h:=?_)|((first|refine Gd.p0 ?_|refine Gd.p1 ?_|refine Gd.b0 ?_|refine Gd.u0 ?_|refine Gd.b1 ?_|refine Gd.u1 ?_);intro _ _)|refine Gd.a0 ?_|refine Gd.a1 ?_);(try simp only[pU]))
  refine Ch.done ?_
  go_wp2_with fail
  go_ret;refine⟨congrArg (fun b=>Ending.returned (.bool b)) ?_,hs.drop⟩;rw[HO.out]
  all_goals
   unfold Hid at *
   subst_vars
   rfl
end Pd
end Go.Proofs.YtjnllcnknjlmmaaGreat
