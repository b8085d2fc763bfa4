/- Layer 41. -/
import Derived.Test.YtjnllcnknjlmmaaGreatKa17
import Derived.Test.YtjnllcnknjlmmaaGreatKb02
import Derived.Test.YtjnllcnknjlmmaaGreatKb03
set_option linter.unusedSimpArgs false
set_option linter.unusedVariables false
set_option maxRecDepth 100000
set_option maxHeartbeats 4000000
namespace Go.Proofs.YtjnllcnknjlmmaaGreat
open Go Go.RowKit
namespace Pd
open Se (St At Reads)
open Li (v8 Rd Blk)
open Bv (n32)
variable {w0 w:World} {X:List Nat} {L:List At}
attribute [local irreducible] Calls
attribute [local go_sem] Gd.mv_true Gd.pk_or Gd.pk_and Gd.pk_true Gd.pk_false
theorem cvG{P:Program}{w:World}{o:Oper}{a:Act}{G:Value->World->Prop}{src dst e:TypeId}{x:Operand}(ho:o.op=.convert src dst x){A:Option Addr}{n c:Nat}(hx:a.eval x=.slice A n c){bs:List (BitVec 8)}(hr:Rd w A (bs.map v8))(hn:n=bs.length)(h1:P.underlying src=some (.slice e))(h2:P.underlying e=some (.int .u8))(h3:P.underlying dst=some .string)(hk:G (.string (strB bs)) w):Hv.Gives P o a w G:=by
 unfold Hv.Gives;rw[xconv ho hx hr hn h1 h2 h3];exact hk
theorem str_ne(a:List (BitVec 8))(ha:a.length=4)(v:BitVec 32):(!(strB a).toList==(strB (numL v 4)).toList) = !(decide (4=0) || w32 a==v):=by
 have:((strB a).toList==(strB (numL v 4)).toList)=(w32 a==v):=by
  rw[Bool.eq_iff_iff];simp only[beq_iff_eq];rw[numL_eq_iff a ha v];simp[strB_list]
 rw[this];rfl
theorem or3b{a b c d e x y z:Bool}(h5:Hid (e=(c || d)))(h4:Hid (d = !z))(h3:Hid (c=(a || b)))(h2:Hid (b = !y))(h1:Hid (a = !x)):e=(!x || !y || !z):=by
 rw[h5.out,h4.out,h3.out,h2.out,h1.out]
theorem fm_eq(f:Fm):fv f=.agg (fl f).toArray:=rfl
theorem rDecode_err(hs:St w0 X L w)(bs:List (BitVec 8))(f:Fm){S:Option Addr}{n c:Nat}(hn:n=bs.length)(hS:Reads L S (bs.map v8))(hc:n<=c)(hle:n<=70368744177664){t e:Nat}(hm:meas bs f=(t,e))(he:e≠0\/t≠n){e':Nat}(hd:dec bs f=({},e')) :
  Calls Tryz.prog 152 #[.slice S n c,fv f] w fun r w'=>r=.returned (.tuple #[.agg (pc {} none 0 0 none 0 0).toArray,iv e'])/\St w0 X L w':=by
 obtain⟨F,hF⟩:∃ F,F=fl f:=⟨_,rfl⟩
 have FL:=Lib.hid (show F.length=3 by rw[hF];rfl)
 have HZ:=Lib.hid zPdu2
 have CM:Hid (∀ (L':List At) (w:World),St w0 X (L'++L) w->Calls Tryz.prog 151 #[.slice S n c,.agg F.toArray] w fun e' w'=>e'=.returned (.tuple #[iv t,iv e])/\St w0 X (L'++L) w'):=Lib.hid (fun L' w hs=>by rw[hF,<-fm_eq];exact rMeasure_st hs bs f hn (hS.app L') hc hle hm)
 have HE:Hid (e'=if e≠0 then e else if n<t then 4 else 366):=Lib.hid (by
  by_cases h0:e=0
  ·subst h0
   rw[dec_eq hm] at hd
   have ht:t≠n:=he.resolve_left (fun h=>h rfl)
   rw[<-hn] at hd;rw[if_neg (by simp)]
   by_cases h1:n<t
   ·rw[if_pos h1] at hd ⊢;cases hd;rfl
   ·rw[if_neg h1,if_pos (by omega)] at hd;rw[if_neg h1];cases hd;rfl
  ·unfold dec at hd
   rw[hm] at hd
   dsimp only at hd
   rw[if_pos h0] at hd
   cases hd
   rw[if_pos h0])
 rw[fm_eq,<-hF]
 have hee:e=0->t≠n:=fun h=>he.resolve_left (fun h'=>h' h)
 clear hd hm hF hS hn he
 by_cases h0:e=0
 ·subst h0
  have ht:=hee rfl
  have HE2:=HE.out
  rw[if_neg (by simp)] at HE2
  by_cases h1:n<t
  ·rw[if_pos h1] at HE2
   subst HE2
   have h1':(n:Int)<(t:Int):=by omega
   clear hee HE
   go_enter Tryz.func152,Tryz.ntmps152
   go_wp2_with (first|((with_reducible refine Se.iL 4 ?_);(refine Se.Al hs rfl (HZ.out) ?_;clear hs;rintro w g4-hs))|((with_reducible refine Se.iL 19 ?_);(refine Se.Ldw hs rfl rfl (Reads.blk 1 rfl) (by rw[FL.out];kernel_rfl) ?_))|((with_reducible refine Se.iL 31 ?_);(refine Se.Bd rfl rfl (rfl) ?_))|((with_reducible refine Se.iN ?_);(refine Se.Sow 0 hs rfl rfl rfl rfl (by simp[Value.oneCell']) (by kernel_rfl) (rfl) ?_;clear hs;intro w hs;try simp only[pS] at hs))|((first|with_reducible refine Se.ab hs ?_|with_reducible refine Se.abc hs ?_);clear hs;(first|(generalize w.heap.size=g3;intro w hs)))|(go_at_call 151;refine Calls.mono (CM.out [_,_] _ hs) ?_;clear hs;rintro e w ⟨rfl,hs⟩))
   refine Se.ret hs [.agg (pc {} none 0 0 none 0 0).toArray,iv _] rfl ⟨Se.resRow rfl (Reads.blk 0 rfl) (by kernel_rfl) (by kernel_rfl),rfl,trivial⟩ (by simp) rfl ?_;exact⟨rfl,hs.drop.drop⟩
  ·rw[if_neg h1] at HE2
   subst HE2
   have h1':(t:Int)<(n:Int):=by omega
   have h1'':¬ (n:Int)<(t:Int):=by omega
   have h2:t<n:=by omega
   clear hee HE ht
   go_enter Tryz.func152,Tryz.ntmps152
   go_wp2_with (first|((with_reducible refine Se.iL 4 ?_);(refine Se.Al hs rfl (HZ.out) ?_;clear hs;rintro w g4-hs))|((with_reducible refine Se.iL 19 ?_);(refine Se.Ldw hs rfl rfl (Reads.blk 1 rfl) (by rw[FL.out];kernel_rfl) ?_))|((with_reducible refine Se.iL 36 ?_);(refine Se.Bd rfl rfl (rfl) ?_))|((with_reducible refine Se.iN ?_);(refine Se.Sow 0 hs rfl rfl rfl rfl (by simp[Value.oneCell']) (by kernel_rfl) (rfl) ?_;clear hs;intro w hs;try simp only[pS] at hs))|((first|with_reducible refine Se.ab hs ?_|with_reducible refine Se.abc hs ?_);clear hs;(first|(generalize w.heap.size=g3;intro w hs)))|(go_at_call 151;refine Calls.mono (CM.out [_,_] _ hs) ?_;clear hs;rintro e w ⟨rfl,hs⟩))
   refine Se.ret hs [.agg (pc {} none 0 0 none 0 0).toArray,iv _] rfl ⟨Se.resRow rfl (Reads.blk 0 rfl) (by kernel_rfl) (by kernel_rfl),rfl,trivial⟩ (by simp) rfl ?_;exact⟨rfl,hs.drop.drop⟩
 ·have z1:((e:Int) != 0)=true:=by simp;omega
  have z2:((e:Int)==0)=false:=by simp;omega
  have HE2:=HE.out
  rw[if_pos h0] at HE2;subst HE2;clear hee HE
  go_enter Tryz.func152,Tryz.ntmps152
  go_wp2_with (first|((with_reducible refine Se.iL 4 ?_);(refine Se.Al hs rfl (HZ.out) ?_;clear hs;rintro w g4-hs))|((with_reducible refine Se.iL 19 ?_);(refine Se.Ldw hs rfl rfl (Reads.blk 1 rfl) (by rw[FL.out];kernel_rfl) ?_))|((with_reducible refine Se.iL 25 ?_);(refine Se.Bd rfl rfl (rfl) ?_))|((with_reducible refine Se.iN ?_);(refine Se.Sow 0 hs rfl rfl rfl rfl (by simp[Value.oneCell']) (by kernel_rfl) (rfl) ?_;clear hs;intro w hs;try simp only[pS] at hs))|((first|with_reducible refine Se.ab hs ?_|with_reducible refine Se.abc hs ?_);clear hs;(first|(generalize w.heap.size=g3;intro w hs)))|(go_at_call 151;refine Calls.mono (CM.out [_,_] _ hs) ?_;clear hs;rintro e w ⟨rfl,hs⟩))
  refine Se.ret hs [.agg (pc {} none 0 0 none 0 0).toArray,iv _] rfl ⟨Se.resRow rfl (Reads.blk 0 rfl) (by kernel_rfl) (by kernel_rfl),rfl,trivial⟩ (by simp) rfl ?_;exact⟨rfl,hs.drop.drop⟩
theorem rDecode_fin(hs:St w0 X L w)(bs:List (BitVec 8))(f:Fm){S:Option Addr}{n c:Nat}(hn:n=bs.length)(hS:Reads L S (bs.map v8))(hc:n<=c)(hle:n<=70368744177664)(hm:meas bs f=(n,0)){P:PDU}{e':Nat}(hd:dec bs f=(P,e')) :
  Calls Tryz.prog 152 #[.slice S n c,fv f] w fun r w'=>∃ EA en ec DA dn dc,r=.returned (.tuple #[.agg (pc P.h EA en ec DA dn dc).toArray,iv e'])/\en=P.en.length/\Reads L EA (P.en.map v8)/\dn=P.da.length/\Reads L DA (P.da.map v8)/\St w0 X L w':=by
 obtain⟨m1,m2,m3,m4,m5,m6⟩:=meas_ok hm
 obtain⟨k,hk⟩:∃ k,k=(bs.getD 0 0#8).toNat:=⟨_,rfl⟩
 obtain⟨fg,hfg⟩:∃ k,k=(bs.getD 1 0#8).toNat:=⟨_,rfl⟩
 obtain⟨at0,hat⟩:∃ k,k=(bs.getD 3 0#8).toNat:=⟨_,rfl⟩
 rw[<-hk] at m3 m4 m6;rw[<-hat] at m6
 have hkl:k<256:=by rw[hk];exact(bs.getD 0 0#8).isLt
 have hfl:fg<256:=by rw[hfg];exact(bs.getD 1 0#8).isLt
 have hatl:at0<256:=by rw[hat];exact(bs.getD 3 0#8).isLt
 obtain⟨g,off,rfl⟩:∃ g off,S=some ⟨g,off,none⟩:=by
  obtain⟨g,off,h,_⟩:=Rd_cell (hS w hs.hold) 0 (v8_at bs 0 (by omega))
  exact⟨g,off,h⟩
 have V0:=Lib.hid (show(bs.map v8)[0]? = some (.int .u8 (k:Int)) by rw[hk];exact v8_at bs 0 (by omega))
 have V1:=Lib.hid (show(bs.map v8)[1]? = some (.int .u8 (fg:Int)) by rw[hfg];exact v8_at bs 1 (by omega))
 have V3:=Lib.hid (show(bs.map v8)[3]? = some (.int .u8 (at0:Int)) by rw[hat];exact v8_at bs 3 (by omega))
 have hdq:=dec_eq hm
 rw[if_neg (by omega),if_neg (by omega),<-hk,<-hfg,<-hat,hd] at hdq
 obtain⟨q,hq⟩:∃ q,hdr k=q:=⟨_,rfl⟩
 obtain⟨h,hh⟩:∃ h,hsum k f=h:=⟨_,rfl⟩
 obtain⟨zp,hzp⟩:∃ b,decide (0<at0)=b:=⟨_,rfl⟩
 obtain⟨d,hdd⟩:∃ d,dsum k f zp=d:=⟨_,rfl⟩
 obtain⟨F,hF⟩:∃ F,F=fl f:=⟨_,rfl⟩
 have FL:=Lib.hid (show F.length=3 by rw[hF];rfl)
 have HZ:=Lib.hid zPdu2
 have hql:q<=128:=by rw[<-hq];exact hdr_le k
 have hq8:24<=q:=by rw[<-hq];rcases hdr_cases m3 with h|h|h|h|h|h|h|h|h <;> rw[h] <;> decide
 have hqh:q+h<=n:=by
  rcases m6 with ⟨_,h2⟩|⟨_,h2,h3,_⟩
  ·omega
  ·have:=start_pos (k:=k) m1 m3;omega
 have hat2:0<at0->q+h<=at0/\at0+d<=n:=by
  intro h0
  rcases m6 with ⟨h2,_⟩|⟨_,h2,h3,_⟩
  ·omega
  ·have:=start_pos (k:=k) m1 m3
   have e1:zp=true:=by rw[<-hzp];simp;omega
   rw[<-e1] at h3;omega
 have hdz:at0=0->d=0:=by
  intro h0;rw[<-hdd,<-hzp,h0];simp[dsum]
 have hdn:d<=n:=by
  rcases Nat.eq_zero_or_pos at0 with h0|h0
  ·rw[hdz h0];omega
  ·have:=hat2 h0;omega
 have h04:h=0\/h=4:=by rw[<-hh];exact hsum_or k f
 have d04:d=0\/d=4:=by rw[<-hdd];exact dsum_or k f zp
 obtain⟨x3,hx3⟩:∃ b,B3 bs f k=b:=⟨_,rfl⟩
 obtain⟨x7,hx7⟩:∃ b,B7 bs f k at0 n=b:=⟨_,rfl⟩
 obtain⟨D,hD⟩:∃ D,dat bs f k at0 n=D:=⟨_,rfl⟩
 obtain⟨PP,hPP⟩:∃ PP,pdu bs f k fg at0 n=PP:=⟨_,rfl⟩
 obtain⟨pad,hpad⟩:∃ pd,(if 0<at0 then sub bs (q+h) at0 else [])=pd:=⟨_,rfl⟩
 obtain⟨ok,hok⟩:∃ b,(zeros (rdR k (sub bs 8 q))&&lenB k (sub bs 8 q) D.length)=b:=⟨_,rfl⟩
 obtain⟨zd,hzd⟩:∃ b,zeros pad=b:=⟨_,rfl⟩
 obtain⟨v,hv⟩:∃ b,valid PP=b:=⟨_,rfl⟩
 have hpe:parse k fg (sub bs 8 q) D=(PP,ok):=by
  rw[parse_eq fg _ _ m3,<-hPP,<-hok,<-hD,<-hq];rfl
 have HX:Hid ((P,e')=if x3=false then ({},364) else if (!ok || !zd || !v)=true then ({},363) else if x7=false then ({},365) else (PP,0)):=Lib.hid (by
  rw[hdq];unfold chainD;unfold rest;rw[zeros_append,hx3,hq,hh,hpad,hzd,hD,hPP,hv,hx7,<-hok];generalize zeros (rdR k (sub bs 8 q))=z1;generalize lenB k (sub bs 8 q) D.length=z2
  cases x3 <;> cases z1 <;> cases z2 <;> cases zd <;> cases v <;> cases x7 <;> rfl)
 have HDSUM:=Lib.hid (show dsum k f zp=d from hdd)
 have hat3:0<at0->at0+1+d<=n:=by
  intro h0
  rcases m6 with ⟨h2,_⟩|⟨_,h2,h3,_⟩
  ·omega
  ·have e1:zp=true:=by rw[<-hzp];simp;omega
   rw[<-e1,hdd] at h3;exact h3
 have HK0:=Lib.hid m3
 have HQK:=Lib.hid hq
 have HPP:=Lib.hid hpe
 have HPB:Hid (pad.length<=300):=Lib.hid (by rw[<-hpad];split <;> simp <;> omega)
 have DLB:Hid (D.length<=n):=Lib.hid (by rw[<-hD];unfold dat;split <;> simp;omega)
 have HB3:Hid (x3=(decide (h=0) || (w32 (sub bs q (q+h))==crc (bs.take q)))):=Lib.hid (by rw[<-hx3];unfold B3;rw[hq,hh])
 have HB7:Hid (x7=(decide (d=0) || (w32 (bs.drop (n-d))==crc D))):=Lib.hid (by rw[<-hx7];unfold B7;rw[hzp,hdd,hD])
 have CM:Hid (∀ (L':List At) (w:World),St w0 X (L'++L) w->Calls Tryz.prog 151 #[.slice (some ⟨g,off,none⟩) n c,.agg F.toArray] w fun e' w'=>e'=.returned (.tuple #[iv n,iv 0])/\St w0 X (L'++L) w'):=Lib.hid (fun L' w hs=>by rw[hF,<-fm_eq];exact rMeasure_st hs bs f hn (hS.app L') hc hle hm)
 have CH:Hid (∀ (L':List At) (w:World),St w0 X (L'++L) w->Calls Tryz.prog 78 #[.int .i64 (k:Int)] w fun e w'=>e=.returned (iv q)/\St w0 X (L'++L) w'):=Lib.hid (fun L' w hs=>rHeader_st hs k hkl hq)
 have CHS:Hid (∀ (L':List At) (w:World),St w0 X (L'++L) w->Calls Tryz.prog 76 #[.int .i64 (k:Int),.agg F.toArray] w fun e w'=>e=.returned (iv h)/\St w0 X (L'++L) w'):=Lib.hid (fun L' w hs=>by rw[hF,<-fm_eq];exact rHeaderSum_st hs k f hh)
 have CDS:Hid (∀ (L':List At) (w:World),St w0 X (L'++L) w->Calls Tryz.prog 77 #[.int .i64 (k:Int),.agg F.toArray,.bool zp] w fun e w'=>e=.returned (iv d)/\St w0 X (L'++L) w'):=Lib.hid (fun L' w hs=>by rw[hF,<-fm_eq];exact rDataSum_st hs k f zp hdd)
 have RS:=Lib.hid (show ∀ i j wx,Rd wx (some ⟨g,off,none⟩) (bs.map v8)->Rd wx (some ⟨g,off+i,none⟩) ((sub bs i j).map v8) from fun i j wx h=>by
  have:=Rd_at (h.take j) i
  simpa only[sub,List.map_take,List.map_drop] using this)
 have HS:=Lib.hid hS
 have HNL:=Lib.hid hn
 have i0:(0:Int)<(n:Int):=by omega
 have i1:(1:Int)<(n:Int):=by omega
 have i3:(3:Int)<(n:Int):=by omega
 have j0:0<n:=by omega
 have j1:1<n:=by omega
 have j3:3<n:=by omega
 have wk':=wrapk_nat (Nat.lt_trans hkl (by decide:256<4294967296))
 have wa':=wrapk_nat (Nat.lt_trans hatl (by decide:256<4294967296))
 have wf':=wrapk_nat (Nat.lt_trans hfl (by decide:256<4294967296))
 rw[fm_eq,<-hF];clear hn hd hdq hpe hS hm m1 m2 m3 m4 m5 m6 hk hfg hat hq hh hdd hF
 go_enter Tryz.func152,Tryz.ntmps152
 go_upto_region 8 with (first|((with_reducible refine Se.iL 4 ?_);(refine Se.Al hs rfl (HZ.out) ?_;clear hs;rintro w g4-hs))|((with_reducible refine Se.iL 19 ?_);(refine Se.Ldw hs rfl rfl (Reads.blk 1 rfl) (by rw[FL.out];kernel_rfl) ?_))|((first|with_reducible refine Se.ab hs ?_|with_reducible refine Se.abc hs ?_);clear hs;(first|(generalize w.heap.size=g3;intro w hs)))|(go_at_call 151;refine Calls.mono (CM.out [_,_] _ hs) ?_;clear hs;rintro e w ⟨rfl,hs⟩))
 refine Ch.region' 10 (fun wx=>Rd wx (some ⟨g,off,none⟩) (bs.map v8)/\Blk wx g3 F 54) (fun |_=>false) (by kernel_rfl) (by decide +kernel) (⟨HS.out _ (fun a ha=>hs.drew.hold a (by simp[ha])),hs.drew.hold (.blk g3 54 F) (by simp)⟩) ?_;replace hs:=hs.drew;generalize w.drew=w at hs ⊢;change Ch.CW _ _ _ _ _ [0,1,2,3,4,5,6,7,8,9] _ _
 iterate 10 ((first|refine Ch.pA ?_|refine Ch.pE (hv:=fun wx hS=>Se.xL (hc:=(Rd_c hS.1 0 V0.out))) (h:=?_)|refine Ch.pE (hv:=fun wx hS=>Se.xL (hc:=(Rd_c hS.1 3 V3.out))) (h:=?_));(try simp only[pU]))
 refine Ch.done ?_
 try simp only[List.drop_succ_cons,List.drop_zero]
 go_upto_region 9 with (fail)
 refine Ch.region' 13 (fun wx=>Rd wx (some ⟨g,off,none⟩) (bs.map v8)/\Blk wx g3 F 54) (fun|1=>true|4=>true|9=>true|_=>false) (by kernel_rfl) (by decide +kernel) (⟨HS.out _ (fun a ha=>hs.drew.hold a (by simp[ha])),hs.drew.hold (.blk g3 54 F) (by simp)⟩) ?_;replace hs:=hs.drew;generalize w.drew=w at hs ⊢;change Ch.CW _ _ _ _ _ [0,1,2,3,4,5,6,7,8,9,10,11,12] _ _
 iterate 1 (refine Ch.pA ?_;(try simp only[pU]))
 refine Ch.cA (f:=78) (args:=#[.int .i64 (k:Int)]) (CH.out [_,_] _ hs) ?_;clear hs;rintro e w⟨rfl,hs⟩;refine⟨_,rfl,⟨HS.out _ (fun a ha=>hs.hold a (by simp[ha])),hs.hold (.blk g3 54 F) (by simp)⟩,?_⟩;(try simp only[pU])
 iterate 2 ((first|refine Ch.pA ?_|refine Ch.pE (hv:=fun wx hS=>Se.xR (hr:=(Li.Rd.of_blk hS.2)) (hi:=(by rw[FL.out] <;> kernel_rfl))) (h:=?_));(try simp only[pU]))
 refine Ch.cA (f:=76) (args:=#[.int .i64 (k:Int),.agg F.toArray]) (CHS.out [_,_] _ hs) ?_;clear hs;rintro e w⟨rfl,hs⟩;refine⟨_,rfl,⟨HS.out _ (fun a ha=>hs.hold a (by simp[ha])),hs.hold (.blk g3 54 F) (by simp)⟩,?_⟩;(try simp only[pU])
 iterate 4 ((first|refine Ch.pA ?_|refine Ch.pE (hv:=fun wx hS=>Se.xR (hr:=(Li.Rd.of_blk hS.2)) (hi:=(by rw[FL.out] <;> kernel_rfl))) (h:=?_));(try simp only[pU]))
 refine Ch.cA (f:=77) (args:=#[.int .i64 (k:Int),.agg F.toArray,.bool zp]) (CDS.out [_,_] _ hs) ?_;clear hs;rintro e w⟨rfl,hs⟩;refine⟨_,rfl,⟨HS.out _ (fun a ha=>hs.hold a (by simp[ha])),hs.hold (.blk g3 54 F) (by simp)⟩,?_⟩;(try simp only[pU])
 iterate 3 (refine Ch.pA ?_;(try simp only[pU]))
 refine Ch.done ?_
 try simp only[List.drop_succ_cons,List.drop_zero]
 go_upto_region 10 with (fail)
 go_cut [71] (fun s71 wx=>s71=.bool (!x3)/\St w0 X ([.blk g4 65 (pc {} none 0 0 none 0 0),.blk g3 54 F]++L) wx)
 case first =>
  rcases h04 with rfl|rfl
  ·obtain rfl:x3=true:=by rw[HB3.out];rfl
   refine Ch.region' 17 (fun wx=>Rd wx (some ⟨g,off,none⟩) (bs.map v8)/\Blk wx g3 F 54) (fun|12=>true|13=>true|14=>true|_=>false) (by kernel_rfl) (by decide +kernel) (⟨HS.out _ (fun a ha=>hs.drew.hold a (by simp[ha])),hs.drew.hold (.blk g3 54 F) (by simp)⟩) ?_;replace hs:=hs.drew;generalize w.drew=w at hs ⊢;change Ch.CW _ _ _ _ _ [0,1,2,3,4,5,6,7,8,9,10,11,12,13,14,15,16] _ _
   iterate 3 (refine Ch.pA ?_;(try simp only[pU]))
   iterate 13 (refine Ch.sK ?_;(try simp only[pU]))
   iterate 1 (refine Ch.pA ?_;(try simp only[pU]))
   refine Ch.done ?_
   try simp only[List.drop_succ_cons,List.drop_zero]
   go_wp2_with fail
   go_meet;exact⟨rfl,hs⟩
  ·have w1:IntKind.i64.wrap ((q:Int)+4)=((q+4:Nat):Int):=by rw[IntWalk.i64_in _ (by omega)];omega
   have w2:(q:Int)+4<=(c:Int):=by omega
   have w3:q+4<=c:=by omega
   have w4:(q:Int)<=(q:Int)+4:=by omega
   have w5:¬ c=q:=by omega
   have w6:(q:Int)<=(c:Int):=by omega
   have w7:q<=c:=by omega
   have w8:((q:Int)+4).toNat-q=4:=by omega
   have HSL:Hid (q+4<=bs.length):=Lib.hid (by rw[<-HNL.out];exact hqh)
   refine Ch.region' 17 (fun wx=>Rd wx (some ⟨g,off,none⟩) (bs.map v8)/\Blk wx g3 F 54) (fun|12=>true|13=>true|14=>true|_=>false) (by kernel_rfl) (by decide +kernel) (⟨HS.out _ (fun a ha=>hs.drew.hold a (by simp[ha])),hs.drew.hold (.blk g3 54 F) (by simp)⟩) ?_;replace hs:=hs.drew;generalize w.drew=w at hs ⊢;change Ch.CW _ _ _ _ _ [0,1,2,3,4,5,6,7,8,9,10,11,12,13,14,15,16] _ _
   iterate 8 (refine Ch.pA ?_;(try simp only[pU]))
   refine Ch.pE (v:=.string (strB (sub bs q (q+4)))) (hv:=fun wx hS=>xconv rfl (A:=some ⟨g,off+q,none⟩) (n:=4) (c:=c-q) rfl (RS.out q (q+4) wx hS.1) (by have:=HSL.out;simp;omega) Tryz.underlying24 Tryz.underlying5 Tryz.underlying9) (h:=?_);(try simp only[pU])
   iterate 3 (refine Ch.pA ?_;(try simp only[pU]))
   refine Ch.cA (f:=83) (args:=#[.slice (some ⟨g,off,none⟩) q c]) (rcrc_st hs (bs.take q) (by rw[List.length_take,<-HNL.out];omega) (by rw[List.map_take];exact(HS.out.take q).app [_,_]) (by omega)) ?_;clear hs;rintro e w⟨rfl,hs⟩;refine⟨_,rfl,⟨HS.out _ (fun a ha=>hs.hold a (by simp[ha])),hs.hold (.blk g3 54 F) (by simp)⟩,?_⟩;(try simp only[pU]);refine Ch.cA (f:=81) (args:=#[.int .u32 (n32 (crc (bs.take q))),.int .i64 4]) (rLittle_st hs (crc (bs.take q)) 4 (by omega)) ?_;clear hs;rintro e w⟨r68,A68,c68,rfl,hs⟩;refine⟨_,rfl,⟨HS.out _ (fun a ha=>hs.hold a (by simp[ha])),hs.hold (.blk g3 54 F) (by simp)⟩,?_⟩;(try simp only[pU]);refine Ch.nA (h:=cvG rfl rfl ((Reads.own 0 rfl) w hs.hold) (by rw[numL_length]) Tryz.underlying24 Tryz.underlying5 Tryz.underlying9 ?_);refine⟨⟨HS.out _ (fun a ha=>hs.hold a (by simp[ha])),hs.hold (.blk g3 54 F) (by simp)⟩,?_⟩;(try simp only[pU])
   iterate 1 (refine Gd.look (by rfl) ?_;(first|((first|refine Gd.p0 ?_|refine Gd.p1 ?_|refine Gd.b0 ?_|refine Gd.u0 ?_|refine Gd.b1 ?_|refine Gd.u1 ?_);intro _ _)|refine Gd.a0 ?_|refine Gd.a1 ?_);(try simp only[pU]))
   iterate 1 (refine Ch.pA ?_;(try simp only[pU]))
   refine Ch.done ?_
   try simp only[List.drop_succ_cons,List.drop_zero]
   rename_i cc hcc
   obtain rfl:cc = !x3:=by
    rw[hcc.out,HB3.out];exact str_ne _ (by have:=HSL.out;simp;omega) _
   go_wp2_with fail
   go_meet;exact⟨rfl,hs.drop⟩
 case rest =>
  clear hs
  obtain⟨rfl,hs⟩:=hcut
  rename World=>w
  cases x3 with
  | false =>
   go_wp2_with (first|((with_reducible refine Se.iL 72 ?_);(refine Se.Bd rfl rfl (rfl) ?_))|((with_reducible refine Se.iN ?_);(refine Se.Sow 0 hs rfl rfl rfl rfl (by simp[Value.oneCell']) (by kernel_rfl) (rfl) ?_;clear hs;intro w hs;try simp only[pS] at hs)))
   refine Se.ret hs [.agg (pc {} none 0 0 none 0 0).toArray,iv _] rfl ⟨Se.resRow rfl (Reads.blk 0 rfl) (by kernel_rfl) (by kernel_rfl),rfl,trivial⟩ (by simp) rfl ?_
   obtain⟨rfl,rfl⟩:P={}/\e'=364:=by have:=HX.out;simpa using this
   exact⟨none,0,0,none,0,⟨0,rfl⟩,rfl,Reads.nil,rfl,Reads.nil,hs.drop.drop⟩
  | true =>
   have HX2:=Lib.hid (show(P,e')=if (!ok || !zd || !v)=true then (({}:PDU),363) else if x7=false then ({},365) else (PP,0) by have:=HX.out;simpa using this)
   clear HX HB3
   obtain⟨dl,hdl⟩:∃ n,n=D.length:=⟨_,rfl⟩
   obtain⟨pl,hpl⟩:∃ n,n=pad.length:=⟨_,rfl⟩
   obtain⟨qh,hqhe⟩:∃ n,n=q+h:=⟨_,rfl⟩
   obtain⟨nd,hnd⟩:∃ m,m=n-d:=⟨_,rfl⟩
   have HDL:=Lib.hid hdl
   have HPL:=Lib.hid hpl
   have HQH:=Lib.hid hqhe
   have HND:=Lib.hid hnd
   have HDE:Hid (D=if zp=true then sub bs at0 nd else []):=Lib.hid (by rw[<-hD,hnd];unfold dat;rw[hzp,HDSUM.out,<-hzp];simp)
   have HPE:Hid (pad=if zp=true then sub bs qh at0 else []):=Lib.hid (by rw[<-hpad,hqhe,<-hzp];simp)
   clear hdl hpl hqhe hnd
   go_upto_if 74 with (fail)
   go_cut [13,14] (fun s13 s14 wx=>∃ DA dc PA pc',s13=.slice DA dl dc/\s14=.slice PA pl pc'/\Hid (Reads L DA (D.map v8))/\Hid (Reads L PA (pad.map v8))/\St w0 X ([.blk g4 65 (pc {} none 0 0 none 0 0),.blk g3 54 F]++L) wx)
   case first =>
    cases zp with
    | false =>
     have E1:=HDE.out
     have E2:=HPE.out
     rw[if_neg (by decide)] at E1 E2
     have E3:dl=0:=by rw[HDL.out,E1];rfl
     have E4:pl=0:=by rw[HPL.out,E2];rfl
     replace E3:=Lib.hid E3
     replace E4:=Lib.hid E4
     replace E1:=Lib.hid E1
     replace E2:=Lib.hid E2
     go_wp2_with fail
     go_meet;exact⟨none,0,none,0,by rw[E3.out],by rw[E4.out],Lib.hid (by rw[E1.out];exact Reads.nil),Lib.hid (by rw[E2.out];exact Reads.nil),hs⟩
    | true =>
     have E1:=HDE.out
     have E2:=HPE.out
     rw[if_pos rfl] at E1 E2
     have hp0:0<at0:=of_decide_eq_true hzp
     have hq2:=hat2 hp0
     have hx:=hat3 hp0
     have E3:dl=nd-at0:=by rw[HDL.out,E1];have:=HNL.out;have:=HND.out;simp;omega
     have E4:pl=at0-qh:=by rw[HPL.out,E2];have:=HNL.out;have:=HND.out;simp;omega
     have w1:IntKind.i64.wrap ((n:Int)-(d:Int))=(nd:Int):=by rw[IntWalk.i64_in _ (by omega)];have:=HND.out;omega
     have w2:IntKind.i64.wrap ((q:Int)+(h:Int))=(qh:Int):=by rw[IntWalk.i64_in _ (by omega)];have:=HQH.out;omega
     have w3:(at0:Int)<=(nd:Int):=by have:=HND.out;omega
     have w4:at0<=nd:=by omega
     have w5:(nd:Int)<=(c:Int):=by have:=HND.out;omega
     have w6:nd<=c:=by omega
     have w7:¬ c=at0:=by omega
     have w8:(qh:Int)<=(at0:Int):=by have:=HQH.out;omega
     have w9:qh<=at0:=by omega
     have wa:(at0:Int)<=(c:Int):=by omega
     have wb:at0<=c:=by omega
     have wc:¬ c=qh:=by omega
     replace E3:=Lib.hid E3
     replace E4:=Lib.hid E4
     replace E1:=Lib.hid E1
     replace E2:=Lib.hid E2
     clear hx hq2 hp0
     go_upto_region 14 with (fail)
     refine Ch.region' 14 (fun _=>True) (fun |_=>false) (by kernel_rfl) (by decide +kernel) (trivial) ?_;replace hs:=hs.drew;generalize w.drew=w at hs ⊢;change Ch.CW _ _ _ _ _ [0,1,2,3,4,5,6,7,8,9,10,11,12,13] _ _
     iterate 14 (refine Ch.pA ?_;(try simp only[pU]))
     refine Ch.done ?_
     try simp only[List.drop_succ_cons,List.drop_zero]
     go_wp2_with fail
     go_meet;exact⟨some ⟨g,off+at0,none⟩,c-at0,some ⟨g,off+qh,none⟩,c-qh,by rw[E3.out],by rw[E4.out],Lib.hid (by rw[E1.out];exact rd_sub HS.out at0 nd),Lib.hid (by rw[E2.out];exact rd_sub HS.out qh at0),hs⟩
   case rest =>
    clear hs
    obtain⟨DA,dc,PA,pc',rfl,rfl,RD,RP,hs⟩:=hcut
    rename World=>w
    have CZ:Hid (∀ (L':List At) (w:World),St w0 X (L'++L) w->Calls Tryz.prog 186 #[.slice PA pl pc'] w fun e w'=>e=.returned (.bool zd)/\St w0 X (L'++L) w'):=Lib.hid (fun L' w hs =>
     (rzeros_any w pad (n:=pl) (c:=pc') HPL.out ((RP.out.app L') w hs.hold) (by have:=HPB.out;rw[HPL.out];omega) hzd).mono (fun e w' k=>⟨k.1,by rw[k.2];exact hs⟩))
    have i8:(8:Int)<=(q:Int):=by omega
    have i8':8<=q:=by omega
    have iq:(q:Int)<=(c:Int):=by omega
    have iq':q<=c:=by omega
    have ic:¬ c=8:=by omega
    have CP:Hid (∀ (w:World),Rd w (some ⟨g,off,none⟩) (bs.map v8)->Calls Tryz.prog 185 #[iv k,iv fg,.slice (some ⟨g,off+8,none⟩) (q-8) (c-8),.slice DA dl dc] w fun e w'=>∃ EA en ec,e=.returned (.tuple #[.agg (pc PP.h EA en ec DA dl dc).toArray,.bool ok])/\en=PP.en.length/\Reads L EA (PP.en.map v8)/\PP.da=D/\Below w.heap.size w w'):=Lib.hid (fun w hr=>by
     refine(parse_st (rd1 hr) HK0.out fg hfl (sub bs 8 q) D (n:=q-8) (by have:=HNL.out;simp;omega) (by rw[HQK.out]) (by omega) (rd_sub (Reads.rd 0 rfl) 8 q) HDL.out HPP.out).mono ?_;rintro e w' ⟨EA,en,ec,h1,h2,h3,h4,h5⟩;refine⟨EA,en,ec,h1,h2,?_,h4,h5.below⟩
     rcases h3 with h3|⟨rfl,h3⟩
     ·rw[h3];exact Reads.nil
     ·rw[h3];exact rd_sub HS.out 8 q)
    clear V0 V3 CM CH CHS CDS RS i0 i3 j0 j3 wk' wa' hat2 hat3 hdz hok hpad hzp HDSUM HDE HPE HQH HND hx3
    go_upto_region 15 with (fail)
    go_cut [15,16] (fun s15 s16 wx=>∃ EA en ec g15,s15=.pointer (some ⟨g15,0,none⟩)/\s16=.bool ok/\Hid (en=PP.en.length)/\Hid (Reads L EA (PP.en.map v8))/\Hid (PP.da=D)/\St w0 X ([.blk g15 65 (pc PP.h EA en ec DA dl dc),.blk g4 65 (pc {} none 0 0 none 0 0),.blk g3 54 F]++L) wx)
    case first =>
     refine Or.region 16 (fun wx=>Rd wx (some ⟨g,off,none⟩) (bs.map v8)/\Blk wx g3 F 54) (fun|9=>true|13=>true|14=>true|_=>false) (by kernel_rfl) (by decide +kernel) (⟨HS.out _ (fun a ha=>hs.drew.hold a (by simp[ha])),hs.drew.hold (.blk g3 54 F) (by simp)⟩) ?_;replace hs:=hs.drew;generalize w.drew=w at hs ⊢;change Or.AW _ _ _ _ _ 16 [0,1,2,3,4,5,6,7,8,9,10,11,12,13,14,15] _ _;refine Or.pA 0 ?_;(try simp only[pU]);change Or.AW _ _ _ _ _ 15 [1,2,3,4,5,6,7,8,9,10,11,12,13,14,15] _ _;refine Or.pA 1 ?_;(try simp only[pU]);change Or.AW _ _ _ _ _ 14 [2,3,4,5,6,7,8,9,10,11,12,13,14,15] _ _;refine Or.pA 2 ?_;(try simp only[pU]);change Or.AW _ _ _ _ _ 13 [3,4,5,6,7,8,9,10,11,12,13,14,15] _ _;refine Or.pE 3 (v:=.int .u8 (fg:Int)) (hv:=fun wx hS=>Se.xl rfl rfl (Rd_c hS.1 1 V1.out) (by decide +kernel)) (h:=?_);(try simp only[pU]);change Or.AW _ _ _ _ _ 12 [4,5,6,7,8,9,10,11,12,13,14,15] _ _;refine Or.pA 4 ?_;(try simp only[pU]);change Or.AW _ _ _ _ _ 11 [5,6,7,8,9,10,11,12,13,14,15] _ _;refine Or.pA 5 ?_;(try simp only[pU]);change Or.AW _ _ _ _ _ 10 [6,7,8,9,10,11,12,13,14,15] _ _;refine Or.pA 6 ?_;(try simp only[pU]);change Or.AW _ _ _ _ _ 9 [7,8,9,10,11,12,13,14,15] _ _;refine Or.pA 7 ?_;(try simp only[pU]);change Or.AW _ _ _ _ _ 8 [8,9,10,11,12,13,14,15] _ _;refine Or.pA 8 ?_;(try simp only[pU]);change Or.AW _ _ _ _ _ 7 [9,10,11,12,13,14,15] _ _;refine Or.two 9 13 (by decide +kernel) (by decide +kernel) (by rfl) (by rfl) (by rfl) (by rfl) ?_ ?_
     ·skip
      refine Se.gcall (f:=185) (args:=#[iv k,iv fg,.slice (some ⟨g,off+8,none⟩) (q-8) (c-8),.slice DA dl dc]) ?_ ?_
      ·go_simp
      refine Calls.mono (CP.out _ (HS.out _ (fun a ha=>hs.hold a (by simp[ha])))) ?_;rintro e w2⟨EA,en,ec,rfl,hen,rE,hda,hb⟩;replace hs:=hs.ext hb;clear hb
      rename World=>w
      refine⟨_,rfl,⟨HS.out _ (fun a ha=>hs.hold a (by simp[ha])),hs.hold (.blk g3 54 F) (by simp)⟩,?_⟩
      have HEN:=Lib.hid hen
      have RE:=Lib.hid rE
      have HDA:=Lib.hid hda
      clear hen rE hda
      obtain⟨PC,hPC⟩:∃ PC,PC=pc PP.h EA en ec DA dl dc:=⟨_,rfl⟩
      rw[<-hPC]
      have PCL:=Lib.hid (show PC.length=14 by rw[hPC];rfl)
      have PCO:=Lib.hid (show ∀ v∈PC,v.oneCell'=true by rw[hPC];exact pc_one _ _ _ _ _ _ _)
      have HPC:=Lib.hid hPC
      clear hPC;(try simp only[pU]);change Or.AW _ _ _ _ _ 6 [10,11,12,13,14,15] _ _;refine Or.pA 10 ?_;(try simp only[pU]);change Or.AW _ _ _ _ _ 5 [11,12,13,14,15] _ _;refine Or.pA 11 ?_;(try simp only[pU]);change Or.AW _ _ _ _ _ 4 [12,13,14,15] _ _;refine Or.pA 12 ?_;(try simp only[pU]);change Or.AW _ _ _ _ _ 3 [13,14,15] _ _;refine Or.one 13 (by decide +kernel) (by decide +kernel) (by rfl) (by rfl) ?_;refine Se.al hs rfl HZ.out ?_;clear hs;rintro w g15-hs;refine⟨⟨HS.out _ (fun a ha=>hs.hold a (by simp[ha])),hs.hold (.blk g3 54 F) (by simp)⟩,?_⟩;(try simp only[pU]);change Or.AW _ _ _ _ _ 2 [14,15] _ _;refine Or.one 14 (by decide +kernel) (by decide +kernel) (by rfl) (by rfl) ?_;refine Se.sow 0 (vs:=PC) hs rfl rfl rfl rfl PCO.out (by rw[PCL.out] <;> kernel_rfl) (by rw[PCL.out];rfl) ?_;clear hs;intro w hs;simp only[List.cons_append,List.nil_append,List.set_cons_zero,List.set_cons_succ] at hs;refine⟨⟨HS.out _ (fun a ha=>hs.hold a (by simp[ha])),hs.hold (.blk g3 54 F) (by simp)⟩,?_⟩
      (try simp only[Act.put])
      change Or.AW _ _ _ _ _ 1 [15] _ _;refine Or.pA 15 ?_;(try simp only[pU]);change Or.AW _ _ _ _ _ 0 [] _ _;refine Or.done ?_;simp only[List.drop_succ_cons,List.drop_zero]
      go_wp2_with fail
      go_meet;exact⟨EA,en,ec,g15,rfl,rfl,HEN,RE,HDA,by rw[<-HPC.out];exact hs⟩
     ·skip
      refine Se.al hs rfl HZ.out ?_;clear hs;rintro w g15-hs;refine⟨⟨HS.out _ (fun a ha=>hs.hold a (by simp[ha])),hs.hold (.blk g3 54 F) (by simp)⟩,?_⟩;(try simp only[pU]);change Or.AW _ _ _ _ _ 6 [9,10,11,12,14,15] _ _;refine Or.one 9 (by decide +kernel) (by decide +kernel) (by rfl) (by rfl) ?_;refine Se.gcall (f:=185) (args:=#[iv k,iv fg,.slice (some ⟨g,off+8,none⟩) (q-8) (c-8),.slice DA dl dc]) ?_ ?_
      ·go_simp
      refine Calls.mono (CP.out _ (HS.out _ (fun a ha=>hs.hold a (by simp[ha])))) ?_;rintro e w2⟨EA,en,ec,rfl,hen,rE,hda,hb⟩;replace hs:=hs.ext hb;clear hb
      rename World=>w
      refine⟨_,rfl,⟨HS.out _ (fun a ha=>hs.hold a (by simp[ha])),hs.hold (.blk g3 54 F) (by simp)⟩,?_⟩
      have HEN:=Lib.hid hen
      have RE:=Lib.hid rE
      have HDA:=Lib.hid hda
      clear hen rE hda
      obtain⟨PC,hPC⟩:∃ PC,PC=pc PP.h EA en ec DA dl dc:=⟨_,rfl⟩
      rw[<-hPC]
      have PCL:=Lib.hid (show PC.length=14 by rw[hPC];rfl)
      have PCO:=Lib.hid (show ∀ v∈PC,v.oneCell'=true by rw[hPC];exact pc_one _ _ _ _ _ _ _)
      have HPC:=Lib.hid hPC
      clear hPC;(try simp only[pU]);change Or.AW _ _ _ _ _ 5 [10,11,12,14,15] _ _;refine Or.pA 10 ?_;(try simp only[pU]);change Or.AW _ _ _ _ _ 4 [11,12,14,15] _ _;refine Or.pA 11 ?_;(try simp only[pU]);change Or.AW _ _ _ _ _ 3 [12,14,15] _ _;refine Or.pA 12 ?_;(try simp only[pU]);change Or.AW _ _ _ _ _ 2 [14,15] _ _;refine Or.one 14 (by decide +kernel) (by decide +kernel) (by rfl) (by rfl) ?_;refine Se.sow 0 (vs:=PC) hs rfl rfl rfl rfl PCO.out (by rw[PCL.out] <;> kernel_rfl) (by rw[PCL.out];rfl) ?_;clear hs;intro w hs;simp only[List.cons_append,List.nil_append,List.set_cons_zero,List.set_cons_succ] at hs;refine⟨⟨HS.out _ (fun a ha=>hs.hold a (by simp[ha])),hs.hold (.blk g3 54 F) (by simp)⟩,?_⟩
      (try simp only[Act.put])
      change Or.AW _ _ _ _ _ 1 [15] _ _;refine Or.pA 15 ?_;(try simp only[pU]);change Or.AW _ _ _ _ _ 0 [] _ _;refine Or.done ?_;simp only[List.drop_succ_cons,List.drop_zero]
      go_wp2_with fail
      go_meet;exact⟨EA,en,ec,g15,rfl,rfl,HEN,RE,HDA,by rw[<-HPC.out];exact hs⟩
    case rest =>
    clear hs CP V1 HPP HQK HK0 wf' i1 j1 i8 i8' iq iq' ic hqh hql hq8 hkl hfl
    obtain⟨EA,en,ec,g15,rfl,rfl,HEN,RE,HDA,hs⟩:=hcut
    rename World=>w
    obtain⟨PC,hPC⟩:∃ PC,PC=pc PP.h EA en ec DA dl dc:=⟨_,rfl⟩
    have PCL:=Lib.hid (show PC.length=14 by rw[hPC];rfl)
    have PCO:=Lib.hid (show ∀ v∈PC,v.oneCell'=true by rw[hPC];exact pc_one _ _ _ _ _ _ _)
    rw[<-hPC] at hs
    have HPC:=Lib.hid hPC
    clear hPC
    have CV:Hid (∀ (L':List At) (w:World),St w0 X (L'++L) w->Calls Tryz.prog 187 #[.agg PC.toArray] w fun e w'=>e=.returned (.bool v)/\St w0 X (L'++L) w'):=Lib.hid (fun L' w hs=>by rw[HPC.out];exact rValid_st hs PP HEN.out (by rw[HDA.out];exact HDL.out) hv)
    go_upto_region 16 with (fail)
    refine Gd.plain 12 (fun wx=>Rd wx (some ⟨g,off,none⟩) (bs.map v8)/\Blk wx g15 PC 65) (fun|4=>true|9=>true|_=>false) rfl (⟨HS.out _ (fun a ha=>hs.hold a (by simp[ha])),hs.hold (.blk g15 65 PC) (by simp)⟩) ?_;change Ch.CW _ _ _ _ _ [0,1,2,3,4,5,6,7,8,9,10,11] _ _
    iterate 4 (refine Gd.look (by rfl) ?_;(first|((first|refine Gd.p0 ?_|refine Gd.p1 ?_|refine Gd.b0 ?_|refine Gd.u0 ?_|refine Gd.b1 ?_|refine Gd.u1 ?_);intro _ _)|refine Gd.a0 ?_|refine Gd.a1 ?_);(try simp only[pU]))
    refine Gd.gn (v:=.bool zd) (by rfl) (by rfl) (by first|exact Gd.want_t rfl rfl rfl|exact Gd.want_f rfl rfl rfl|exact Gd.want_mt rfl rfl rfl|exact Gd.want_mf rfl rfl rfl) hs (fun hb=>?_) (fun w hT=>?_)
    ·(try simp only[Bool.and_eq_true] at hb)
     refine Se.gcall (f:=186) (args:=#[.slice PA pl pc']) ?_ ?_
     ·go_simp
     refine Calls.mono (CZ.out [_,_,_] _ hs) ?_;clear hs;rintro e w⟨rfl,hs⟩;exact⟨_,rfl,rfl,hs⟩
    clear hs
    have hs:=hT
    clear hT;refine⟨⟨HS.out _ (fun a ha=>hs.hold a (by simp[ha])),hs.hold (.blk g15 65 PC) (by simp)⟩,?_⟩;(try simp only[pU])
    iterate 4 (refine Gd.look (by rfl) ?_;(first|refine Gd.l0 (v:=.agg PC.toArray) (hv:=fun wx hS=>Se.xla (by rfl) (by rfl) (Li.Rd.of_blk hS.2) (by rw[PCL.out] <;> kernel_rfl) (by kernel_rfl)) (h:=?_)|refine Gd.l1 (v:=.agg PC.toArray) (hv:=fun hb0 wx hS=>Se.xla (by rfl) (by rfl) (Li.Rd.of_blk hS.2) (by rw[PCL.out] <;> kernel_rfl) (by kernel_rfl)) (h:=?_)|((first|refine Gd.p0 ?_|refine Gd.p1 ?_|refine Gd.b0 ?_|refine Gd.u0 ?_|refine Gd.b1 ?_|refine Gd.u1 ?_);intro _ _)|refine Gd.a0 ?_|refine Gd.a1 ?_);(try simp only[pU]))
    refine Gd.gn (v:=.bool v) (by rfl) (by rfl) (by first|exact Gd.want_t rfl rfl rfl|exact Gd.want_f rfl rfl rfl|exact Gd.want_mt rfl rfl rfl|exact Gd.want_mf rfl rfl rfl) hs (fun hb=>?_) (fun w hT=>?_)
    ·(try simp only[Bool.and_eq_true] at hb)
     refine Se.gcall (f:=187) (args:=#[.agg PC.toArray]) ?_ ?_
     ·go_simp
     refine Calls.mono (CV.out [_,_,_] _ hs) ?_;clear hs;rintro e w⟨rfl,hs⟩;exact⟨_,rfl,rfl,hs⟩
    clear hs
    have hs:=hT
    clear hT;refine⟨⟨HS.out _ (fun a ha=>hs.hold a (by simp[ha])),hs.hold (.blk g15 65 PC) (by simp)⟩,?_⟩;(try simp only[pU])
    iterate 2 (refine Gd.look (by rfl) ?_;(first|((first|refine Gd.p0 ?_|refine Gd.p1 ?_|refine Gd.b0 ?_|refine Gd.u0 ?_|refine Gd.b1 ?_|refine Gd.u1 ?_);intro _ _)|refine Gd.a0 ?_|refine Gd.a1 ?_);(try simp only[pU]))
    refine Ch.done ?_;rename_i cc hcc
    obtain⟨bb,hbb⟩:∃ b,(!ok || !zd || !v)=b:=⟨_,rfl⟩
    have hcb:cc=bb:=by
     rw[<-hbb];exact or3b hcc (by assumption) (by assumption) (by assumption) (by assumption)
    subst hcb;rw[hbb] at HX2
    cases cc with
    | true =>
     go_upto_region 17 with (fail)
     go_cut [5] (fun s5 wx=>s5=iv 363/\St w0 X ([.blk g15 65 PC,.blk g4 65 (pc {} none 0 0 none 0 0),.blk g3 54 F]++L) wx)
     case first =>
      go_wp2_with (first|((with_reducible refine Se.iL 112 ?_);(refine Se.Bd rfl rfl (rfl) ?_))|((with_reducible refine Se.iN ?_);(refine Se.Sow 1 hs rfl rfl rfl rfl (by simp[Value.oneCell']) (by kernel_rfl) (rfl) ?_;clear hs;intro w hs;try simp only[pS] at hs)))
      go_meet;exact⟨rfl,hs⟩
     case rest =>
      clear hs
      obtain⟨rfl,hs⟩:=hcut
      refine ‹∀ (a:Act) (w:World),Code.wp Tryz.prog Code.ret _ a w->_› _ _ ?_
      refine wp_ret ?_
      try simp only[Exit.inBlock,Exit.then]
      refine Se.ret hs [.agg (pc {} none 0 0 none 0 0).toArray,iv _] rfl ⟨Se.resRow rfl (Reads.blk 1 rfl) (by kernel_rfl) (by kernel_rfl),rfl,trivial⟩ (by simp) rfl ?_
      obtain⟨rfl,rfl⟩:P={}/\e'=363:=by have:=HX2.out;simpa using this
      exact⟨none,0,0,none,0,0,rfl,rfl,Reads.nil,rfl,Reads.nil,hs.drop.drop.drop⟩
    | false =>
     have HX3:=Lib.hid (show(P,e')=if x7=false then (({}:PDU),365) else (PP,0) by have:=HX2.out;simpa using this)
     clear HX2
     go_upto_region 18 with (fail)
     go_cut [126] (fun s126 wx=>s126=.bool (!x7)/\St w0 X ([.blk g15 65 PC,.blk g4 65 (pc {} none 0 0 none 0 0),.blk g3 54 F]++L) wx)
     case first =>
      rcases d04 with rfl|rfl
      ·obtain rfl:x7=true:=by rw[HB7.out];rfl
       refine Ch.region' 14 (fun wx=>Rd wx (some ⟨g,off,none⟩) (bs.map v8)/\Blk wx g15 PC 65) (fun|9=>true|10=>true|11=>true|_=>false) (by kernel_rfl) (by decide +kernel) (⟨HS.out _ (fun a ha=>hs.drew.hold a (by simp[ha])),hs.drew.hold (.blk g15 65 PC) (by simp)⟩) ?_;replace hs:=hs.drew;generalize w.drew=w at hs ⊢;change Ch.CW _ _ _ _ _ [0,1,2,3,4,5,6,7,8,9,10,11,12,13] _ _
       iterate 3 (refine Ch.pA ?_;(try simp only[pU]))
       iterate 10 (refine Ch.sK ?_;(try simp only[pU]))
       iterate 1 (refine Ch.pA ?_;(try simp only[pU]))
       refine Ch.done ?_
       try simp only[List.drop_succ_cons,List.drop_zero]
       go_wp2_with fail
       go_meet;exact⟨rfl,hs⟩
      ·have h4n:4<=n:=by omega
       obtain⟨n4,hn4⟩:∃ m,m=n-4:=⟨_,rfl⟩
       have HN4:=Lib.hid hn4
       have w1:IntKind.i64.wrap ((n:Int)-4)=(n4:Int):=by rw[IntWalk.i64_in _ (by omega)];omega
       have w2:(n4:Int)<=(n:Int):=by omega
       have w3:n4<=n:=by omega
       have w4:(n4:Int)<=(c:Int):=by omega
       have w5:¬ c=n4:=by omega
       have w6:n-n4=4:=by omega
       have w7:(n:Int)<=(c:Int):=by omega
       have HSL:Hid ((bs.drop n4).length=4):=Lib.hid (by rw[List.length_drop,<-HNL.out];omega)
       clear hn4;refine Ch.region' 14 (fun wx=>Rd wx (some ⟨g,off,none⟩) (bs.map v8)/\Blk wx g15 PC 65) (fun|9=>true|10=>true|11=>true|_=>false) (by kernel_rfl) (by decide +kernel) (⟨HS.out _ (fun a ha=>hs.drew.hold a (by simp[ha])),hs.drew.hold (.blk g15 65 PC) (by simp)⟩) ?_;replace hs:=hs.drew;generalize w.drew=w at hs ⊢;change Ch.CW _ _ _ _ _ [0,1,2,3,4,5,6,7,8,9,10,11,12,13] _ _
       iterate 7 (refine Ch.pA ?_;(try simp only[pU]))
       refine Ch.pE (v:=.string (strB (bs.drop n4))) (hv:=fun wx hS=>xconv rfl (A:=some ⟨g,off+n4,none⟩) (n:=4) (c:=c-n4) rfl (by simpa only[List.map_drop] using Rd_at hS.1 n4) HSL.out.symm Tryz.underlying24 Tryz.underlying5 Tryz.underlying9) (h:=?_);(try simp only[pU])
       iterate 1 (refine Ch.pA ?_;(try simp only[pU]))
       refine Ch.cA (f:=83) (args:=#[.slice DA dl dc]) (rcrc_st hs D HDL.out (RD.out.app [_,_,_]) (by have:=DLB.out;rw[HDL.out];omega)) ?_;clear hs;rintro e w⟨rfl,hs⟩;refine⟨_,rfl,⟨HS.out _ (fun a ha=>hs.hold a (by simp[ha])),hs.hold (.blk g15 65 PC) (by simp)⟩,?_⟩;(try simp only[pU]);refine Ch.cA (f:=81) (args:=#[.int .u32 (n32 (crc D)),.int .i64 4]) (rLittle_st hs (crc D) 4 (by omega)) ?_;clear hs;rintro e w⟨r68,A68,c68,rfl,hs⟩;refine⟨_,rfl,⟨HS.out _ (fun a ha=>hs.hold a (by simp[ha])),hs.hold (.blk g15 65 PC) (by simp)⟩,?_⟩;(try simp only[pU]);refine Ch.nA (h:=cvG rfl rfl ((Reads.own 0 rfl) w hs.hold) (by rw[numL_length]) Tryz.underlying24 Tryz.underlying5 Tryz.underlying9 ?_);refine⟨⟨HS.out _ (fun a ha=>hs.hold a (by simp[ha])),hs.hold (.blk g15 65 PC) (by simp)⟩,?_⟩;(try simp only[pU])
       iterate 1 (refine Gd.look (by rfl) ?_;(first|((first|refine Gd.p0 ?_|refine Gd.p1 ?_|refine Gd.b0 ?_|refine Gd.u0 ?_|refine Gd.b1 ?_|refine Gd.u1 ?_);intro _ _)|refine Gd.a0 ?_|refine Gd.a1 ?_);(try simp only[pU]))
       iterate 1 (refine Ch.pA ?_;(try simp only[pU]))
       refine Ch.done ?_
       try simp only[List.drop_succ_cons,List.drop_zero]
       rename_i cc2 hcc2
       have hc2:cc2 = !x7:=by
        rw[hcc2.out,HB7.out,<-HN4.out];exact str_ne _ HSL.out _
       subst hc2
       go_wp2_with fail
       go_meet;exact⟨rfl,hs.drop⟩
     case rest =>
      clear hs
      obtain⟨rfl,hs⟩:=hcut
      rename World=>w
      cases x7 with
      | false =>
       go_upto_region 19 with (fail)
       go_cut [5] (fun s5 wx=>s5=iv 365/\St w0 X ([.blk g15 65 PC,.blk g4 65 (pc {} none 0 0 none 0 0),.blk g3 54 F]++L) wx)
       case first =>
        go_wp2_with (first|((with_reducible refine Se.iL 127 ?_);(refine Se.Bd rfl rfl (rfl) ?_))|((with_reducible refine Se.iN ?_);(refine Se.Sow 1 hs rfl rfl rfl rfl (by simp[Value.oneCell']) (by kernel_rfl) (rfl) ?_;clear hs;intro w hs;try simp only[pS] at hs)))
        go_meet;exact⟨rfl,hs⟩
       case rest =>
        clear hs
        obtain⟨rfl,hs⟩:=hcut
        refine ‹∀ (a:Act) (w:World),Code.wp Tryz.prog Code.ret _ a w->_› _ _ ?_
        refine wp_ret ?_
        try simp only[Exit.inBlock,Exit.then]
        refine Se.ret hs [.agg (pc {} none 0 0 none 0 0).toArray,iv _] rfl ⟨Se.resRow rfl (Reads.blk 1 rfl) (by kernel_rfl) (by kernel_rfl),rfl,trivial⟩ (by simp) rfl ?_
        obtain⟨rfl,rfl⟩:P={}/\e'=365:=by have:=HX3.out;simpa using this
        exact⟨none,0,0,none,0,0,rfl,rfl,Reads.nil,rfl,Reads.nil,hs.drop.drop.drop⟩
      | true =>
       obtain⟨rfl,rfl⟩:P=PP/\e'=0:=by have:=HX3.out;simpa using this
       go_upto_region 20 with (fail)
       go_cut [5] (fun s5 wx=>s5=iv 0/\St w0 X ([.blk g15 65 PC,.blk g4 65 PC,.blk g3 54 F]++L) wx)
       case first =>
        go_wp2_with (first|((with_reducible refine Se.iL 128 ?_);(refine Se.Ldw hs rfl rfl (Reads.blk 0 rfl) (by rw[PCL.out];kernel_rfl) ?_))|((with_reducible refine Se.iN ?_);(refine Se.Sow 1 hs rfl rfl rfl rfl (PCO.out) (by rw[PCL.out];kernel_rfl) (by rw[PCL.out];rfl) ?_;clear hs;intro w hs;try simp only[pS] at hs)))
        go_meet;exact⟨rfl,hs⟩
       case rest =>
       clear hs
       obtain⟨rfl,hs⟩:=hcut
       refine ‹∀ (a:Act) (w:World),Code.wp Tryz.prog Code.ret _ a w->_› _ _ ?_
       refine wp_ret ?_
       try simp only[Exit.inBlock,Exit.then]
       refine Se.ret hs [.agg PC.toArray,iv _] rfl ⟨Se.resRow rfl (Reads.blk 1 rfl) (by kernel_rfl) (by rw[PCL.out] <;> kernel_rfl),rfl,trivial⟩ (by simp) rfl ?_;exact⟨EA,en,ec,DA,dl,dc,by rw[HPC.out],HEN.out,RE.out,by rw[HDA.out];exact HDL.out,by rw[HDA.out];exact RD.out,hs.drop.drop.drop⟩
theorem rDecode_st(hs:St w0 X L w)(bs:List (BitVec 8))(f:Fm){S:Option Addr}{n c:Nat}(hn:n=bs.length)(hS:Reads L S (bs.map v8))(hc:n<=c)(hle:n<=70368744177664){P:PDU}{e':Nat}(hd:dec bs f=(P,e')) :
  Calls Tryz.prog 152 #[.slice S n c,fv f] w fun r w'=>∃ EA en ec DA dn dc,r=.returned (.tuple #[.agg (pc P.h EA en ec DA dn dc).toArray,iv e'])/\en=P.en.length/\Reads L EA (P.en.map v8)/\dn=P.da.length/\Reads L DA (P.da.map v8)/\St w0 X L w':=by
 obtain⟨⟨t,e⟩,hm⟩:∃ x,meas bs f=x:=⟨_,rfl⟩
 by_cases h0:e=0/\t=n
 ·obtain⟨rfl,rfl⟩:=h0
  exact rDecode_fin hs bs f hn hS hc hle hm hd
 ·have he:e≠0\/t≠n:=by
   by_cases h1:e=0
   ·exact .inr fun h2=>h0 ⟨h1,h2⟩
   ·exact .inl h1
  have hP:P={}:=by
   by_cases h1:e=0
   ·subst h1
    have ht:t≠n:=he.resolve_left (fun h=>h rfl)
    rw[dec_eq hm,<-hn] at hd
    by_cases h2:n<t
    ·rw[if_pos h2] at hd;cases hd;rfl
    ·rw[if_neg h2,if_pos (by omega)] at hd;cases hd;rfl
   ·unfold dec at hd
    rw[hm] at hd
    dsimp only at hd
    rw[if_pos h1] at hd
    cases hd;rfl
  subst hP;refine(rDecode_err hs bs f hn hS hc hle hm he hd).mono ?_;rintro r w' ⟨h1,h2⟩;exact⟨none,0,0,none,0,0,h1,rfl,Reads.nil,rfl,Reads.nil,h2⟩
end Pd
end Go.Proofs.YtjnllcnknjlmmaaGreat
namespace Go.Proofs.YtjnllcnknjlmmaaGreat
open Go Go.RowKit
namespace Sr
open Pd (iv)
open Se (At)
variable {w0 w:World} {X:List Nat} {L:List At} {s s':Rc} {g c:Nat} {B:Option Addr} {r:Option Nat}
attribute [local irreducible] Calls
theorem rcl_one(s:Rc)(B:Option Addr)(c:Nat):∀ v∈rcl s B c,v.oneCell'=true:=by simp[rcl,Value.oneCell',iv]
end Sr
end Go.Proofs.YtjnllcnknjlmmaaGreat
namespace Go.Proofs.YtjnllcnknjlmmaaGreat
open Go Go.RowKit
namespace Se
end Se
namespace Pd
open Se (St At Reads)
open Li (v8)
variable {w0 w:World} {X:List Nat} {L:List At}
attribute [local irreducible] Calls
end Pd
end Go.Proofs.YtjnllcnknjlmmaaGreat
namespace Go.Proofs.YtjnllcnknjlmmaaGreat
open Go Go.RowKit
namespace Pd
open Se (St At Reads)
open Li (v8)
variable {w0 w:World} {X:List Nat} {L:List At}
attribute [local irreducible] Calls
theorem rDecodeN_st(hs:St w0 X L w)(bs:List (BitVec 8))(f:Fm){S:Option Addr}{n c:Nat}(hn:n=bs.length)(hS:Reads L S (bs.map v8))(hc:n<=c)(hle:n<=70368744177664){P:PDU}{e:Nat}(hd:dec bs f=(P,e)) :
  Calls Tryz.prog 152 #[.slice S n c,fv f] w fun r w'=>∃ EA ec DA dc PC,r=.returned (.tuple #[.agg PC.toArray,iv e])/\Hid (PC=pc P.h EA P.en.length ec DA P.da.length dc)/\Hid (Reads L EA (P.en.map v8))/\Hid (Reads L DA (P.da.map v8))/\St w0 X L w' :=
 (rDecode_st hs bs f hn hS hc hle hd).mono (by
  rintro r w' ⟨EA,en,ec,DA,dn,dc,h1,h2,h3,h4,h5,h6⟩;subst h2 h4;exact⟨EA,ec,DA,dc,_,h1,Lib.hid rfl,Lib.hid h3,Lib.hid h5,h6⟩)
end Pd
end Go.Proofs.YtjnllcnknjlmmaaGreat
namespace Go.Proofs.YtjnllcnknjlmmaaGreat
open Go Go.RowKit
namespace Sr
open Pd (PDU)
open Se (St At)
open Li (Rd)
variable {w0 w:World} {X:List Nat} {L:List At} {s s':Rc} {g c:Nat} {B:Option Addr} {r:Option Nat}
attribute [local irreducible] Calls
theorem take_none{s:Rc}{p:PDU}{n e:Nat}(h:takeE s=(p,n,e))(he:e≠0):p={}:=by
 unfold takeE at h
 repeat' split at h
 all_goals first|(cases h;rfl)|skip
 cases h
 exact Pd.dec_err rfl he
end Sr
end Go.Proofs.YtjnllcnknjlmmaaGreat
namespace Go.Proofs.YtjnllcnknjlmmaaGreat
open Go Go.RowKit
namespace Se
open Li (Rd)
variable {w0 w:World} {X:List Nat} {L:List At}
theorem St.rdSub{A A':Option Addr}{xs ys:List Value}(h:St w0 X (.rd A xs::L) w)(hr:Rd w A' ys)(hb:ys≠[]->xs≠[]/\∀ a',A'=some a'->∃ a,A=some a/\a.block=a'.block):St w0 X (.rd A' ys::L) w:=by
 refine⟨?_,h.nd,?_,h.may,h.fr⟩
 ·intro a ha
  rcases List.mem_cons.1 ha with rfl|ha
  ·exact hr
  ·exact h.hold a (List.mem_cons_of_mem _ ha)
 ·intro a ha b hb'
  rcases List.mem_cons.1 ha with rfl|ha
  ·intro hy a' ha'
   obtain⟨hx,hq⟩:=hb hy
   obtain⟨a,hA,he⟩:=hq a' ha'
   have:=h.sep (.rd A xs) List.mem_cons_self b hb' hx a hA
   rwa [he] at this
  ·exact h.sep a (List.mem_cons_of_mem _ ha) b hb'
end Se
namespace Sr
open Pd (PDU)
open Se (St At)
open Li (Rd)
variable {w0 w:World} {X:List Nat} {L:List At} {s s':Rc} {g c:Nat} {B:Option Addr} {r:Option Nat}
attribute [local irreducible] Calls
theorem zR:(Tryz.prog.info? 56).bind (fun i=>i.zero.map (·.cells.toList))=some (rcl { f:=⟨false,false,0⟩,mo:=0 } none 0):=by kernel_rfl
end Sr
end Go.Proofs.YtjnllcnknjlmmaaGreat
