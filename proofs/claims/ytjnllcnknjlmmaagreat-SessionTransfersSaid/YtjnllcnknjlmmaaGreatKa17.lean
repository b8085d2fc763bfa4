/- Layer 41. -/
import Derived.Test.YtjnllcnknjlmmaaGreatKa12
set_option linter.unusedSimpArgs false
set_option linter.unusedVariables false
set_option maxRecDepth 100000
set_option maxHeartbeats 4000000
namespace Go.Proofs.YtjnllcnknjlmmaaGreat
open Go Go.RowKit
namespace Pd
open Se (St At Reads Cell)
open Li (v8 Rd Blk)
open Bv (n8 n32)
variable {w0 w:World} {X:List Nat} {L:List At}
attribute [local irreducible] Calls
attribute [local go_sem] Gd.mv_true Gd.pk_or Gd.pk_and Gd.pk_true Gd.pk_false
theorem zPdu3:(Tryz.prog.info? 65).bind (fun i=>i.zero.map (·.cells.toList))=some (pc {} none 0 0 none 0 0):=by kernel_rfl
theorem n8k3{k:Nat}(h:k<256):n8 (BitVec.ofNat 8 k)=(k:Int):=by unfold n8;rw[BitVec.toNat_ofNat];omega
theorem fm_eq3(f:Fm):fv f=.agg (fl f).toArray:=rfl
theorem n32_beq(x y:BitVec 32):(n32 x==n32 y)=(x==y):=by
 unfold n32;rw[Bool.eq_iff_iff];simp only[beq_iff_eq];exact⟨fun h=>BitVec.eq_of_toNat_eq (by omega),fun h=>by rw[h]⟩
theorem bd_pdu(k:Int)(b2 b3:Bool)(w:World):(Instr.build 65 #[(0,.int .u8 k),(1,.bool b2),(2,.bool b3)]).run Tryz.prog w=.ok (.agg #[.int .u8 k,.bool b2,.bool b3,.slice none 0 0,.int .u16 0,.int .u16 0,.int .u32 0,.int .u32 0,.int .u8 0,.int .u8 0,.int .u32 0,.int .u16 0,.int .u32 0,.slice none 0 0]) w:=by kernel_rfl
theorem rdR_le(k:Nat)(s:List (BitVec 8))(h:s.length<=300):(rdR k s).length<=1000:=by
 unfold rdR;split <;> simp <;> omega
theorem rdH_k(k:Nat)(s:List (BitVec 8))(h:Hd):(rdH k s h).k=h.k:=by unfold rdH;split <;> rfl
theorem rdE_le(k:Nat)(s:List (BitVec 8))(h:s.length<=300):(rdE k s).length<=1000:=by
 unfold rdE;split <;> (try simp) <;> omega
def DGive(P:PDU)(e:Nat)(w0:World)(X:List Nat)(L:List At)(r:Ending)(w':World):Prop :=
 (e≠0/\r=.panicked (chn e)/\St w0 X L w') \/
 (e=0/\∃ r1 EA ec r2 DA dc,r=.returned (.agg (pc P.h EA P.en.length ec DA P.da.length dc).toArray)/\St w0 X (.own 1 r1 EA P.en.length ec (P.en.map v8)::.own 1 r2 DA P.da.length dc (P.da.map v8)::L) w')
theorem perm_q{A B C D E:At}{Q L:List At}(h:St w0 X (A::B::(Q++([C,D,E]++L))) w):St w0 X ([A,B,C,D,E]++(Q++L)) w:=by
 refine h.perm (List.Perm.cons _ (List.Perm.cons _ ?_));exact List.perm_append_comm_assoc _ _ _
theorem decode_err(hs:St w0 X L w)(bs:List (BitVec 8))(f:Fm){S:Option Addr}{n c:Nat}(hn:n=bs.length)(hS:Reads L S (bs.map v8))(hc:n<=c)(hle:n<=70368744177664){t e:Nat}(hm:meas bs f=(t,e))(he:e≠0\/t≠n){P:PDU}{e':Nat}(hd:dec bs f=(P,e')) :
  Calls Tryz.prog 210 #[.slice S n c,fv f] w fun r w'=>r=.panicked (chn e')/\e'≠0/\St w0 X L w':=by
 obtain⟨F,hF⟩:∃ F,F=fl f:=⟨_,rfl⟩
 obtain⟨xs,hxs⟩:∃ xs,shV (bs.getD 0 0#8).toNat=xs:=⟨_,rfl⟩
 have FL:=Lib.hid (show F.length=3 by rw[hF];rfl)
 have HZ:=Lib.hid zPdu3
 have XL:=Lib.hid (show xs.length=7 by rw[<-hxs,shV_eq];rfl)
 have XO:=Lib.hid (show ∀ v∈xs,v.oneCell'=true by rw[<-hxs];exact shV_one _)
 have ZS:=Lib.hid zShape
 have ZSL:=Lib.hid (show(shV 8).length=7 by rw[shV_eq];rfl)
 have CM0:∀ (L':List At) (w:World),St w0 X (L'++L) w->Calls Tryz.prog 208 #[.slice S n c,.agg F.toArray] w fun e' w'=>e'=mEnd xs t e/\St w0 X (L'++L) w':=fun L' w hs=>by rw[hF,<-fm_eq3];exact measure_st hs bs f hn (hS.app L') hc hle hm hxs
 have HE:Hid (e'=if e≠0 then e else if n<t then 4 else 366):=Lib.hid (by
  by_cases h0:e=0
  ·subst h0
   rw[dec_eq hm] at hd
   have ht:t≠n:=he.resolve_left (fun h=>h rfl)
   rw[<-hn] at hd;rw[if_neg (by simp)]
   by_cases h1:n<t
   ·rw[if_pos h1] at hd ⊢;cases hd;rfl
   ·rw[if_neg h1,if_pos (by omega)] at hd;rw[if_neg h1];cases hd;rfl
  ·unfold dec at hd
   rw[hm] at hd
   dsimp only at hd
   rw[if_pos h0] at hd
   cases hd
   rw[if_pos h0])
 rw[fm_eq3,<-hF]
 have hee:e=0->t≠n:=fun h=>he.resolve_left (fun h'=>h' h)
 clear hd hm hF hS hn he hxs
 by_cases h0:e=0
 ·subst h0
  have ht:=hee rfl
  have HE2:=HE.out
  rw[if_neg (by simp)] at HE2
  have CM:=Lib.hid CM0
  have CM2:Hid (∀ (L':List At) (w:World),St w0 X (L'++L) w->Calls Tryz.prog 208 #[.slice S n c,.agg F.toArray] w fun e' w'=>e'=.returned (.tuple #[.agg xs.toArray,iv t])/\St w0 X (L'++L) w'):=CM
  clear CM CM0
  by_cases h1:n<t
  ·rw[if_pos h1] at HE2
   subst HE2
   have h1':decide ((t:Int)<=(n:Int))=false:=by simp;omega
   have h1'':decide (t<=n)=false:=by simp;omega
   clear hee HE h1 ht
   go_enter Tryz.func210,Tryz.ntmps210
   go_wp2_with (first|((with_reducible refine Se.iL 4 ?_);(refine Se.Al hs rfl (HZ.out) ?_;clear hs;rintro w g4-hs))|((with_reducible refine Se.iL 14 ?_);(refine Se.Ldw hs rfl rfl (Reads.blk 1 rfl) (by rw[FL.out];kernel_rfl) ?_))|((with_reducible refine Se.iL 5 ?_);(refine Se.Al hs rfl (ZS.out) ?_;clear hs;rintro w g5-hs))|((with_reducible refine Se.isL (o:=⟨none,Op.store 217 _ _,_,_,_,_⟩) ?_);(refine Se.Sow 0 hs rfl rfl rfl rfl (XO.out) (by rw[XL.out];kernel_rfl) (by rw[XL.out,ZSL.out]) ?_;clear hs;intro w hs;try simp only[pS] at hs))|((first|with_reducible refine Se.ab hs ?_|with_reducible refine Se.abc hs ?_);clear hs;(first|(generalize w.heap.size=g3;intro w hs)))|(go_at_call 208;refine Calls.mono (CM2.out [_,_] _ hs) ?_;clear hs;rintro e w ⟨rfl,hs⟩)|(go_at_call 227;refine Calls.mono (must_f 4 _) ?_;rintro e w' ⟨rfl,rfl⟩))
   exact⟨rfl,rfl,by decide,hs.drop.drop.drop⟩
  ·rw[if_neg h1] at HE2
   subst HE2
   have h1':decide ((t:Int)<=(n:Int))=true:=by simp;omega
   have h1'':decide (t<=n)=true:=by simp;omega
   have h2:((n:Int)==(t:Int))=false:=by simp;omega
   clear hee HE h1 ht
   go_enter Tryz.func210,Tryz.ntmps210
   go_upto_region 3 with (first|((with_reducible refine Se.iL 4 ?_);(refine Se.Al hs rfl (HZ.out) ?_;clear hs;rintro w g4-hs))|((with_reducible refine Se.iL 14 ?_);(refine Se.Ldw hs rfl rfl (Reads.blk 1 rfl) (by rw[FL.out];kernel_rfl) ?_))|((with_reducible refine Se.iL 5 ?_);(refine Se.Al hs rfl (ZS.out) ?_;clear hs;rintro w g5-hs))|((with_reducible refine Se.isL (o:=⟨none,Op.store 217 _ _,_,_,_,_⟩) ?_);(refine Se.Sow 0 hs rfl rfl rfl rfl (XO.out) (by rw[XL.out];kernel_rfl) (by rw[XL.out,ZSL.out]) ?_;clear hs;intro w hs;try simp only[pS] at hs))|((first|with_reducible refine Se.ab hs ?_|with_reducible refine Se.abc hs ?_);clear hs;(first|(generalize w.heap.size=g3;intro w hs)))|(go_at_call 208;refine Calls.mono (CM2.out [_,_] _ hs) ?_;clear hs;rintro e w ⟨rfl,hs⟩)|(go_at_call 227;refine Calls.mono (must_t 4 _) ?_;rintro e w' ⟨rfl,rfl⟩))
   go_wp2_with (first|(go_at_call 227;refine Calls.mono (must_f 366 _) ?_;rintro e w' ⟨rfl,rfl⟩))
   exact⟨rfl,rfl,by decide,hs.drop.drop.drop⟩
 ·have HE2:=HE.out
  rw[if_pos h0] at HE2;subst HE2
  have CM2:Hid (∀ (L':List At) (w:World),St w0 X (L'++L) w->Calls Tryz.prog 208 #[.slice S n c,.agg F.toArray] w fun e'' w'=>e''=.panicked (chn e')/\St w0 X (L'++L) w'):=Lib.hid (by unfold mEnd at CM0;rwa [if_neg h0] at CM0)
  have h0':=Lib.hid h0
  clear hee HE CM0 h0
  go_enter Tryz.func210,Tryz.ntmps210
  go_wp2_with (first|((with_reducible refine Se.iL 4 ?_);(refine Se.Al hs rfl (HZ.out) ?_;clear hs;rintro w g4-hs))|((with_reducible refine Se.iL 14 ?_);(refine Se.Ldw hs rfl rfl (Reads.blk 1 rfl) (by rw[FL.out];kernel_rfl) ?_))|((first|with_reducible refine Se.ab hs ?_|with_reducible refine Se.abc hs ?_);clear hs;(first|(generalize w.heap.size=g3;intro w hs)))|(go_at_call 208;refine Calls.mono (CM2.out [_,_] _ hs) ?_;clear hs;rintro e w ⟨rfl,hs⟩))
  exact⟨rfl,rfl,h0'.out,hs.drop.drop⟩
theorem decode_fin(hs:St w0 X L w)(bs:List (BitVec 8))(f:Fm){S:Option Addr}{n c:Nat}(hn:n=bs.length)(hS:Reads L S (bs.map v8))(hc:n<=c)(hle:n<=70368744177664)(hm:meas bs f=(n,0)){P:PDU}{e':Nat}(hd:dec bs f=(P,e')) :
  Calls Tryz.prog 210 #[.slice S n c,fv f] w (DGive P e' w0 X L):=by
 obtain⟨m1,m2,m3,m4,m5,m6⟩:=meas_ok hm
 obtain⟨k,hk⟩:∃ k,k=(bs.getD 0 0#8).toNat:=⟨_,rfl⟩
 obtain⟨fg,hfg⟩:∃ k,k=(bs.getD 1 0#8).toNat:=⟨_,rfl⟩
 obtain⟨at0,hat⟩:∃ k,k=(bs.getD 3 0#8).toNat:=⟨_,rfl⟩
 rw[<-hk] at m3 m4 m6;rw[<-hat] at m6
 have hkl:k<256:=by rw[hk];exact(bs.getD 0 0#8).isLt
 have hfl:fg<256:=by rw[hfg];exact(bs.getD 1 0#8).isLt
 have hatl:at0<256:=by rw[hat];exact(bs.getD 3 0#8).isLt
 obtain⟨g,off,rfl⟩:∃ g off,S=some ⟨g,off,none⟩:=by
  obtain⟨g,off,h,_⟩:=Rd_cell (hS w hs.hold) 0 (v8_at bs 0 (by omega))
  exact⟨g,off,h⟩
 have V0:=Lib.hid (show(bs.map v8)[0]? = some (.int .u8 (k:Int)) by rw[hk];exact v8_at bs 0 (by omega))
 have V1:=Lib.hid (show(bs.map v8)[1]? = some (.int .u8 (fg:Int)) by rw[hfg];exact v8_at bs 1 (by omega))
 have V3:=Lib.hid (show(bs.map v8)[3]? = some (.int .u8 (at0:Int)) by rw[hat];exact v8_at bs 3 (by omega))
 have hdq:=dec_eq hm
 rw[if_neg (by omega),if_neg (by omega),<-hk,<-hfg,<-hat,hd] at hdq
 obtain⟨q,hq⟩:∃ q,hdr k=q:=⟨_,rfl⟩
 obtain⟨h,hh⟩:∃ h,hsum k f=h:=⟨_,rfl⟩
 obtain⟨zp,hzp⟩:∃ b,decide (0<at0)=b:=⟨_,rfl⟩
 obtain⟨d,hdd⟩:∃ d,dsum k f zp=d:=⟨_,rfl⟩
 obtain⟨F,hF⟩:∃ F,F=fl f:=⟨_,rfl⟩
 have FL:=Lib.hid (show F.length=3 by rw[hF];rfl)
 have HZ:=Lib.hid zPdu3
 have hql:q<=128:=by rw[<-hq];exact hdr_le k
 have hq8:24<=q:=by rw[<-hq];rcases hdr_cases m3 with h|h|h|h|h|h|h|h|h <;> rw[h] <;> decide
 have hqh:q+h<=n:=by
  rcases m6 with ⟨_,h2⟩|⟨_,h2,h3,_⟩
  ·omega
  ·have:=start_pos (k:=k) m1 m3;omega
 have hat2:0<at0->q+h<=at0/\at0+d<=n:=by
  intro h0
  rcases m6 with ⟨h2,_⟩|⟨_,h2,h3,_⟩
  ·omega
  ·have:=start_pos (k:=k) m1 m3
   have e1:zp=true:=by rw[<-hzp];simp;omega
   rw[<-e1] at h3;omega
 have hdz:at0=0->d=0:=by
  intro h0;rw[<-hdd,<-hzp,h0];simp[dsum]
 have h04:h=0\/h=4:=by rw[<-hh];exact hsum_or k f
 have d04:d=0\/d=4:=by rw[<-hdd];exact dsum_or k f zp
 obtain⟨x3,hx3⟩:∃ b,B3 bs f k=b:=⟨_,rfl⟩
 obtain⟨x7,hx7⟩:∃ b,B7 bs f k at0 n=b:=⟨_,rfl⟩
 obtain⟨D,hD⟩:∃ D,dat bs f k at0 n=D:=⟨_,rfl⟩
 obtain⟨PP,hPP⟩:∃ PP,pdu bs f k fg at0 n=PP:=⟨_,rfl⟩
 obtain⟨pad,hpad⟩:∃ pd,(if 0<at0 then sub bs (q+h) at0 else [])=pd:=⟨_,rfl⟩
 obtain⟨zr,hzr⟩:∃ b,zeros (rest bs f k at0)=b:=⟨_,rfl⟩
 obtain⟨lb,hlb⟩:∃ b,lenB k (sub bs 8 q) D.length=b:=⟨_,rfl⟩
 obtain⟨v,hv⟩:∃ b,valid PP=b:=⟨_,rfl⟩
 have HX:Hid (e'=(if x3=false then 364 else if zr=false then 363 else if lb=false then 363 else if v=false then 363 else if x7=false then 365 else 0)/\(e'=0->P=PP)):=Lib.hid (by
  unfold chainD at hdq;rw[hx3,hzr,hq,hD,hlb,hPP,hv,hx7] at hdq
  cases x3 <;> cases zr <;> cases lb <;> cases v <;> cases x7 <;> cases hdq <;> exact⟨rfl,by simp⟩)
 obtain⟨xs,hxs⟩:∃ xs,shV k=xs:=⟨_,rfl⟩
 obtain⟨b2,hb2⟩:∃ b,bit fg 2=b:=⟨_,rfl⟩
 obtain⟨b3,hb3⟩:∃ b,bit fg 3=b:=⟨_,rfl⟩
 obtain⟨ca,hca⟩:∃ b,decide (k=6\/k=7)=b:=⟨_,rfl⟩
 obtain⟨PC0,hPC0⟩:∃ PC0,PC0=pc (hd0 k fg) none 0 0 none 0 0:=⟨_,rfl⟩
 have HC0:Hid ([Value.int .u8 (k:Int),.bool b2,.bool b3,.slice none 0 0,.int .u16 0,.int .u16 0,.int .u32 0,.int .u32 0,.int .u8 0,.int .u8 0,.int .u32 0,.int .u16 0,.int .u32 0,.slice none 0 0]=PC0):=Lib.hid (by
  rw[hPC0];unfold pc hd0;rw[n8k3 hkl,hb2,hb3];rfl)
 have K00:=Lib.hid (show PC0[0]? = some (.int .u8 (k:Int)) by rw[<-HC0.out];rfl)
 have XL:=Lib.hid (show xs.length=7 by rw[<-hxs,shV_eq];rfl)
 have X0:=Lib.hid (show xs[0]? = some (iv q) by rw[<-hxs,shV_eq,hq];rfl)
 have XO:=Lib.hid (show ∀ v∈xs,v.oneCell'=true by rw[<-hxs];exact shV_one _)
 obtain⟨rf,hrf,hrn,hrc⟩:=rea_fn m3
 have X6:=Lib.hid (show xs[6]? = some (fnv rf) by rw[<-hxs,shV_eq,<-hrf];rfl)
 have RN:=Lib.hid hrn
 have ZS:=Lib.hid zShape
 have ZSL:=Lib.hid (show(shV 8).length=7 by rw[shV_eq];rfl)
 have HQ:=Lib.hid hq
 have HHS:=Lib.hid hh
 have HLB:=Lib.hid hlb.symm
 have HDSUM:=Lib.hid (show dsum k f zp=d from hdd)
 have HPAD:=Lib.hid hpad.symm
 have HK0:=Lib.hid m3
 have HB3:Hid (x3=(decide (h=0) || (w32 (sub bs q (q+h))==crc (bs.take q)))):=Lib.hid (by rw[<-hx3];unfold B3;rw[hq,hh])
 have HB7:Hid (x7=(decide (d=0) || (w32 (bs.drop (n-d))==crc D))):=Lib.hid (by rw[<-hx7];unfold B7;rw[hzp,hdd,hD])
 have DLB:Hid (D.length<=n):=Lib.hid (by rw[<-hD];unfold dat;split <;> simp;omega)
 have hat3:0<at0->at0+1+d<=n:=by
  intro h0
  rcases m6 with ⟨h2,_⟩|⟨_,h2,h3,_⟩
  ·omega
  ·have e1:zp=true:=by rw[<-hzp];simp;omega
   rw[<-e1,hdd] at h3;exact h3
 have CM:Hid (∀ (L':List At) (w:World),St w0 X (L'++L) w->Calls Tryz.prog 208 #[.slice (some ⟨g,off,none⟩) n c,.agg F.toArray] w fun e' w'=>e'=.returned (.tuple #[.agg xs.toArray,iv n])/\St w0 X (L'++L) w'):=Lib.hid (fun L' w hs=>by rw[hF,<-fm_eq3];exact measure_st hs bs f hn (hS.app L') hc hle hm (by rw[<-hk];exact hxs))
 have CD:Hid (∀ (L':List At) (w:World),St w0 X (L'++L) w->Calls Tryz.prog 131 #[.int .u8 (k:Int),.agg F.toArray,.bool zp] w fun e w'=>e=.returned (.tuple #[iv h,iv d])/\St w0 X (L'++L) w'):=Lib.hid (fun L' w hs=>by rw[hF,<-fm_eq3];exact digests_st hs k f zp hh hdd)
 obtain⟨qh,hqhe⟩:∃ n,n=q+h:=⟨_,rfl⟩
 have CV1:Hid (∀ (L':List At) (w:World),St w0 X (L'++L) w->Calls Tryz.prog 221 #[.slice (some ⟨g,off+q,none⟩) (qh-q) (c-q)] w fun e w'=>e=.returned (.int .u32 (n32 (w32 (sub bs q (q+h)))))/\St w0 X (L'++L) w'):=Lib.hid (fun L' w hs=>by
  refine(value_any w (sub bs q (q+h)) (qh-q) (c-q) (by simp;omega) (by omega) ?_).mono (fun e w' k=>⟨k.1,by rw[k.2];exact hs⟩);exact((rd_sub hS q (q+h)).app L') w hs.hold)
 have CC1:Hid (∀ (L':List At) (w:World),St w0 X (L'++L) w->Calls Tryz.prog 136 #[.slice (some ⟨g,off,none⟩) q c] w fun e w'=>e=.returned (.int .u32 (n32 (crc (bs.take q))))/\St w0 X (L'++L) w'):=Lib.hid (fun L' w hs=>by
  refine crc_st hs (bs:=bs.take q) (by simp;omega) ?_ (by omega) rfl;rw[List.map_take];exact(hS.take q).app L')
 have CV3:Hid (∀ (M:List At),Cell (M++L) g (off+3) (.int .u8 (at0:Int))):=Lib.hid (fun M=>(hS.app M).cell 3 V3.out)
 have HS:=Lib.hid hS
 have HNL:=Lib.hid hn
 have HQH:=Lib.hid hqhe
 have iqh:IntKind.i64.wrap ((q:Int)+(h:Int))=(qh:Int):=by rw[IntWalk.i64_in _ (by omega)];omega
 have i0:(0:Int)<(n:Int):=by omega
 have i1:(1:Int)<(n:Int):=by omega
 have i3:(3:Int)<(n:Int):=by omega
 have j0:0<n:=by omega
 have j1:1<n:=by omega
 have j3:3<n:=by omega
 have k1:(q:Int)<=(qh:Int):=by omega
 have k2:q<=qh:=by omega
 have k3:(qh:Int)<=(c:Int):=by omega
 have k4:qh<=c:=by omega
 have k6:(q:Int)<=(c:Int):=by omega
 have k7:q<=c:=by omega
 have k8:(8:Int)<=(q:Int):=by omega
 have k9:8<=q:=by omega
 have ka:¬ c=8:=by omega
 have wk':=wrapk_nat (Nat.lt_trans hkl (by decide:256<4294967296))
 have wa':=wrapk_nat (Nat.lt_trans hatl (by decide:256<4294967296))
 have v4:(bits .and .u8 (fg:Int) 4==0)=(!b2):=by rw[<-hb2];exact(bit_and2 fg hfl).1
 have v8':(bits .and .u8 (fg:Int) 8==0)=(!b3):=by rw[<-hb3];exact(bit_and2 fg hfl).2.1
 have v4n:(bits .and .u8 (fg:Int) 4 != 0)=b2:=by rw[bne,v4,Bool.not_not]
 have v8n:(bits .and .u8 (fg:Int) 8 != 0)=b3:=by rw[bne,v8',Bool.not_not]
 rw[fm_eq3,<-hF];clear hd hdq hS hm m1 m2 m3 m4 m5 m6 hk hfg hat hq hh hdd hF hn hqhe hxs hrf hrn hb2 hb3
 go_enter Tryz.func210,Tryz.ntmps210
 go_upto_region 4 with (first|((with_reducible refine Se.iL 4 ?_);(refine Se.Al hs rfl (HZ.out) ?_;clear hs;rintro w g4-hs))|((with_reducible refine Se.iL 14 ?_);(refine Se.Ldw hs rfl rfl (Reads.blk 1 rfl) (by rw[FL.out];kernel_rfl) ?_))|((with_reducible refine Se.iL 5 ?_);(refine Se.Al hs rfl (ZS.out) ?_;clear hs;rintro w g5-hs))|((with_reducible refine Se.isL (o:=⟨none,Op.store 217 _ _,_,_,_,_⟩) ?_);(refine Se.Sow 0 hs rfl rfl rfl rfl (XO.out) (by rw[XL.out];kernel_rfl) (by rw[XL.out,ZSL.out]) ?_;clear hs;intro w hs;try simp only[pS] at hs))|((first|with_reducible refine Se.ab hs ?_|with_reducible refine Se.abc hs ?_);clear hs;(first|(generalize w.heap.size=g3;intro w hs)))|(go_at_call 208;refine Calls.mono (CM.out [_,_] _ hs) ?_;clear hs;rintro e w ⟨rfl,hs⟩)|(go_at_call 227;refine Calls.mono (must_t 4 _) ?_;rintro e w' ⟨rfl,rfl⟩)|(go_at_call 227;refine Calls.mono (must_t 366 _) ?_;rintro e w' ⟨rfl,rfl⟩))
 refine Ch.region' 16 (fun wx=>Rd wx (some ⟨g,off,none⟩) (bs.map v8)) (fun|14=>true|15=>true|_=>false) (by kernel_rfl) (by decide +kernel) (HS.out _ (fun a ha=>hs.drew.hold a (by simp[ha]))) ?_;replace hs:=hs.drew;generalize w.drew=w at hs ⊢;change Ch.CW _ _ _ _ _ [0,1,2,3,4,5,6,7,8,9,10,11,12,13,14,15] _ _
 iterate 13 ((first|refine Ch.pA ?_|refine Ch.pE (hv:=fun wx hS=>Se.xL (hc:=(Rd_c hS 0 V0.out))) (h:=?_)|refine Ch.pE (hv:=fun wx hS=>Se.xL (hc:=(Rd_c hS 1 V1.out))) (h:=?_));(try simp only[pU]))
 refine Ch.pE (v:=.agg #[.int .u8 (k:Int),.bool b2,.bool b3,.slice none 0 0,.int .u16 0,.int .u16 0,.int .u32 0,.int .u32 0,.int .u8 0,.int .u8 0,.int .u32 0,.int .u16 0,.int .u32 0,.slice none 0 0]) (hv:=fun wx hS=>xbd rfl (vs:=[(0,.int .u8 (k:Int)),(1,.bool b2),(2,.bool b3)]) rfl (bd_pdu _ _ _ _)) (h:=?_);(try simp only[pU]);refine Ch.nA (h:=Se.al hs rfl (HZ.out) ?_);clear hs;rintro w g7-hs;refine⟨HS.out _ (fun a ha=>hs.hold a (by simp[ha])),?_⟩;(try simp only[pU]);refine Ch.nA (h:=Se.sow 0 (vs:=[.int .u8 (k:Int),.bool b2,.bool b3,.slice none 0 0,.int .u16 0,.int .u16 0,.int .u32 0,.int .u32 0,.int .u8 0,.int .u8 0,.int .u32 0,.int .u16 0,.int .u32 0,.slice none 0 0]) hs rfl rfl rfl rfl (by simp[Value.oneCell']) (by kernel_rfl) rfl ?_);clear hs;intro w hs;simp only[pS] at hs;refine⟨HS.out _ (fun a ha=>hs.hold a (by simp[ha])),?_⟩;(try simp only[pU]);refine Ch.done ?_
 try simp only[List.drop_succ_cons,List.drop_zero]
 rw[HC0.out] at hs
 replace hs:St w0 X ([.blk g7 65 PC0,.blk g5 217 xs,.blk g4 65 (pc {} none 0 0 none 0 0),.blk g3 54 F]++L) w:=hs
 go_upto_region 7 with (first|((with_reducible refine Se.iL 44 ?_);(refine Se.Ld hs rfl rfl (CV3.out [_,_,_,_]) ?_))|((with_reducible refine Se.iL 48 ?_);(refine Se.Ld hs rfl rfl (Cell.blk 0 rfl K00.out) ?_))|((with_reducible refine Se.iL 49 ?_);(refine Se.Ldw hs rfl rfl (Reads.blk 3 rfl) (by rw[FL.out];kernel_rfl) ?_))|(go_at_call 131;refine Calls.mono (CD.out [_,_,_,_] _ hs) ?_;clear hs;rintro e w ⟨rfl,hs⟩))
 go_cut [11] (fun s11 wx=>s11=undef/\Hid (x3=true)/\St w0 X ([.blk g7 65 PC0,.blk g5 217 xs,.blk g4 65 (pc {} none 0 0 none 0 0),.blk g3 54 F]++L) wx)
 case first =>
  rcases h04 with h0|h0
  ·have hx3t:x3=true:=by rw[HB3.out,h0];rfl
   subst h0;refine Ch.region' 19 (fun wx=>Rd wx (some ⟨g,off,none⟩) (bs.map v8)/\Blk wx g5 xs 217) (fun|11=>true|16=>true|_=>false) (by kernel_rfl) (by decide +kernel) (⟨HS.out _ (fun a ha=>hs.drew.hold a (by simp[ha])),hs.drew.hold (.blk g5 217 xs) (by simp)⟩) ?_;replace hs:=hs.drew;generalize w.drew=w at hs ⊢;change Ch.CW _ _ _ _ _ [0,1,2,3,4,5,6,7,8,9,10,11,12,13,14,15,16,17,18] _ _
   iterate 3 (refine Ch.pA ?_;(try simp only[pU]))
   iterate 15 (refine Ch.sK ?_;(try simp only[pU]))
   iterate 1 (refine Ch.pA ?_;(try simp only[pU]))
   refine Ch.done ?_
   try simp only[List.drop_succ_cons,List.drop_zero]
   go_wp2_with (first|(go_at_call 227;refine Calls.mono (must_t 364 _) ?_;rintro e w' ⟨rfl,rfl⟩))
   go_meet;exact⟨rfl,Lib.hid hx3t,hs⟩
  ·have kq:¬ c=q:=by omega
   have hz:((h:Int)==0)=false:=by rw[h0];rfl
   clear h0;refine Ch.region' 19 (fun wx=>Rd wx (some ⟨g,off,none⟩) (bs.map v8)/\Blk wx g5 xs 217) (fun|11=>true|16=>true|_=>false) (by kernel_rfl) (by decide +kernel) (⟨HS.out _ (fun a ha=>hs.drew.hold a (by simp[ha])),hs.drew.hold (.blk g5 217 xs) (by simp)⟩) ?_;replace hs:=hs.drew;generalize w.drew=w at hs ⊢;change Ch.CW _ _ _ _ _ [0,1,2,3,4,5,6,7,8,9,10,11,12,13,14,15,16,17,18] _ _
   iterate 11 (refine Gd.look (by rfl) ?_;(first|refine Gd.l0 (hv:=fun wx hS=>Se.xL (hc:=by rw[(hS.2).cell];first|exact X0.out)) (h:=?_)|refine Gd.l1 (hv:=fun hb0 wx hS=>Se.xL (hc:=by rw[(hS.2).cell];first|exact X0.out) (hx:=by exact Gd.mv_of hb0)) (h:=?_)|refine Gd.l1 (hv:=fun hb0 wx hS=>Se.xL (hc:=by rw[(hS.2).cell];first|exact X0.out)) (h:=?_)|((first|refine Gd.p0 ?_|refine Gd.p1 ?_|refine Gd.b0 ?_|refine Gd.u0 ?_|refine Gd.b1 ?_|refine Gd.u1 ?_);intro _ _)|refine Gd.a0 ?_|refine Gd.a1 ?_);(try simp only[pU]))
   refine Gd.gn (v:=.int .u32 (n32 (w32 (sub bs q (q+h))))) (by rfl) (by rfl) (by first|exact Gd.want_t rfl rfl rfl|exact Gd.want_f rfl rfl rfl|exact Gd.want_mt rfl rfl rfl|exact Gd.want_mf rfl rfl rfl) hs (fun hb=>?_) (fun w hT=>?_)
   ·(try simp only[Bool.and_eq_true] at hb)
    refine Se.gcall (f:=221) (args:=#[.slice (some ⟨g,off+q,none⟩) (qh-q) (c-q)]) ?_ ?_
    ·go_simp
    refine Calls.mono (CV1.out [_,_,_,_] _ hs) ?_;clear hs;rintro e w⟨rfl,hs⟩;exact⟨_,rfl,rfl,hs⟩
   clear hs
   have hs:=hT
   clear hT;refine⟨⟨HS.out _ (fun a ha=>hs.hold a (by simp[ha])),hs.hold (.blk g5 217 xs) (by simp)⟩,?_⟩;(try simp only[pU])
   iterate 4 (refine Gd.look (by rfl) ?_;(first|refine Gd.l0 (hv:=fun wx hS=>Se.xL (hc:=by rw[(hS.2).cell];first|exact X0.out)) (h:=?_)|refine Gd.l1 (hv:=fun hb0 wx hS=>Se.xL (hc:=by rw[(hS.2).cell];first|exact X0.out) (hx:=by exact Gd.mv_of hb0)) (h:=?_)|refine Gd.l1 (hv:=fun hb0 wx hS=>Se.xL (hc:=by rw[(hS.2).cell];first|exact X0.out)) (h:=?_)|((first|refine Gd.p0 ?_|refine Gd.p1 ?_|refine Gd.b0 ?_|refine Gd.u0 ?_|refine Gd.b1 ?_|refine Gd.u1 ?_);intro _ _)|refine Gd.a0 ?_|refine Gd.a1 ?_);(try simp only[pU]))
   refine Gd.gn (v:=.int .u32 (n32 (crc (bs.take q)))) (by rfl) (by rfl) (by first|exact Gd.want_t rfl rfl rfl|exact Gd.want_f rfl rfl rfl|exact Gd.want_mt rfl rfl rfl|exact Gd.want_mf rfl rfl rfl) hs (fun hb=>?_) (fun w hT=>?_)
   ·(try simp only[Bool.and_eq_true] at hb)
    refine Se.gcall (f:=136) (args:=#[.slice (some ⟨g,off,none⟩) q c]) ?_ ?_
    ·go_simp
    refine Calls.mono (CC1.out [_,_,_,_] _ hs) ?_;clear hs;rintro e w⟨rfl,hs⟩;exact⟨_,rfl,rfl,hs⟩
   clear hs
   have hs:=hT
   clear hT;refine⟨⟨HS.out _ (fun a ha=>hs.hold a (by simp[ha])),hs.hold (.blk g5 217 xs) (by simp)⟩,?_⟩;(try simp only[pU])
   iterate 2 (refine Gd.look (by rfl) ?_;(first|((first|refine Gd.p0 ?_|refine Gd.p1 ?_|refine Gd.b0 ?_|refine Gd.u0 ?_|refine Gd.b1 ?_|refine Gd.u1 ?_);intro _ _)|refine Gd.a0 ?_|refine Gd.a1 ?_);(try simp only[pU]))
   refine Ch.done ?_
   try simp only[List.drop_succ_cons,List.drop_zero]
   rename_i cc hcc
   have hc3:cc=x3:=by
    have e:cc=(false || n32 (w32 (sub bs q (q+h)))==n32 (crc (bs.take q))):=by
     unfold Hid at *
     subst_vars
     rfl
    rw[e,HB3.out,n32_beq,show decide (h=0)=false from(eqI h 0).symm.trans hz]
   have hx3c:=Lib.hid hc3.symm
   clear hc3
   cases cc with
   | false =>
    have hx3f:x3=false:=hx3c.out
    have he':e'=364:=by have:=HX.out.1;rw[hx3f] at this;simpa using this
    go_wp2_with (first|(go_at_call 227;refine Calls.mono (must_f 364 _) ?_;rintro e w' ⟨rfl,rfl⟩))
    exact⟨rfl,.inl ⟨by decide,rfl,hs.drop.drop.drop.drop⟩⟩
   | true =>
    go_wp2_with (first|(go_at_call 227;refine Calls.mono (must_t 364 _) ?_;rintro e w' ⟨rfl,rfl⟩))
    go_meet;exact⟨rfl,hx3c,hs⟩
 case rest =>
  clear hs
  obtain⟨rfl,hx3t,hs⟩:=hcut
  rename World=>w
  have HX1:=Lib.hid (show e'=(if zr=false then 363 else if lb=false then 363 else if v=false then 363 else if x7=false then 365 else 0) by have:=HX.out.1;rw[hx3t.out] at this;simpa using this)
  have HXP:=Lib.hid HX.out.2
  clear HX HB3 CV1 CC1 CM CD HC0
  go_upto_region 8 with (fail)
  refine Ch.region' 8 (fun wx=>Blk wx g5 xs 217) (fun|6=>true|_=>false) (by kernel_rfl) (by decide +kernel) (hs.drew.hold (.blk g5 217 xs) (by simp)) ?_;replace hs:=hs.drew;generalize w.drew=w at hs ⊢;change Ch.CW _ _ _ _ _ [0,1,2,3,4,5,6,7] _ _
  iterate 6 ((first|refine Ch.pA ?_|refine Ch.pE (hv:=fun wx hS=>Se.xL (hc:=(by rw[hS.cell];exact X6.out))) (h:=?_)|refine Ch.pE (hv:=fun wx hS=>Se.xL (hc:=(by rw[hS.cell];exact X0.out))) (h:=?_));(try simp only[pU]))
  refine Ch.noise (by rfl) (by rfl) (by rfl) ?_;refine Se.gcall (f:=rf) (args:=#[.slice (some ⟨g,off+8,none⟩) (q-8) (c-8),.pointer (some ⟨g7,0,none⟩)]) ?_ ?_
  ·have hw:=RN.out
   clear RN X6 hrc
   rcases hw with rfl|rfl|rfl|rfl <;> go_simp
  rw[hPC0] at hs;refine Calls.mono (hrc (L0:=L) (hd0 k fg) (sub bs 8 q) hs (m:=q-8) (by have:=HNL.out;simp;omega) (by rw[HQ.out]) (by omega) (rd_sub HS.out 8 q) (fun a ha=>by simp[ha])) ?_;clear hs;rintro e w⟨A,rc,r1,EA,ec,Q,rfl,hR,hs⟩
  replace hs:=perm_q hs
  refine⟨_,rfl,hs.hold (.blk g5 217 xs) (by simp),?_⟩;(try simp only[pU])
  iterate 1 (refine Ch.pA ?_;(try simp only[pU]))
  refine Ch.done ?_
  try simp only[List.drop_succ_cons,List.drop_zero]
  obtain⟨L2,hL2⟩:∃ L2,L2=Q++L:=⟨_,rfl⟩
  have hsub2:∀ a∈L,a∈L2:=fun a ha=>by rw[hL2];exact List.mem_append.2 (.inr ha)
  have HS2:=Lib.hid (HS.out.mono hsub2)
  rw[<-hL2] at hs hR
  have hL2s:∀ (w':World) (M:List At),St w0 X (M++L2) w'->St w0 X (M++L) w':=fun w' M h=>by
   rw[hL2] at h;exact h.sub (List.Sublist.append (List.Sublist.refl _) (List.sublist_append_right _ _))
  obtain⟨HD1,hHD1⟩:∃ h,h=rdH k (sub bs 8 q) (hd0 k fg):=⟨_,rfl⟩
  obtain⟨E,hE⟩:∃ e,e=rdE k (sub bs 8 q):=⟨_,rfl⟩
  obtain⟨R1,hR1⟩:∃ r,r=rdR k (sub bs 8 q):=⟨_,rfl⟩
  rw[<-hHD1,<-hE] at hs;rw[<-hR1] at hR ⊢
  obtain⟨el,hel⟩:∃ n,n=E.length:=⟨_,rfl⟩
  obtain⟨r1l,hr1l⟩:∃ n,n=R1.length:=⟨_,rfl⟩
  rw[<-hel] at hs;rw[<-hr1l]
  have HRR:=Lib.hid hR
  have HR1L:=Lib.hid hr1l
  have HEL:=Lib.hid hel
  have HL2S:=Lib.hid hL2s
  have HPPE:Hid (PP={ h:=clr k HD1,en:=E,da:=D }):=Lib.hid (by rw[<-hPP,hHD1,hE,<-hD,HQ.out.symm];rfl)
  have HRE:Hid (rest bs f k at0=R1++pad):=Lib.hid (by unfold rest;rw[HQ.out,hR1,<-hpad,HHS.out])
  have HR1E:=Lib.hid hR1
  have HHD:=Lib.hid hHD1
  have ELB:Hid (el<=1000):=Lib.hid (by rw[hel,hE];exact rdE_le k _ (by have:=HNL.out;simp;omega))
  have HKK:Hid (HD1.k=BitVec.ofNat 8 k):=Lib.hid (by rw[hHD1];exact rdH_k _ _ _)
  clear hL2 hL2s hsub2 hR hHD1 hE hR1 hel hr1l hpad
  obtain⟨D1,hD1⟩:∃ l,l=pc HD1 EA el ec none 0 0:=⟨_,rfl⟩
  rw[<-hD1] at hs
  obtain⟨RR,hRR⟩:∃ r,r=R1++pad:=⟨_,rfl⟩
  obtain⟨rl,hrl⟩:∃ n,n=RR.length:=⟨_,rfl⟩
  obtain⟨dl,hdl⟩:∃ n,n=D.length:=⟨_,rfl⟩
  obtain⟨nd,hnd⟩:∃ m,m=n-d:=⟨_,rfl⟩
  have HDL:=Lib.hid hdl
  have HRL:=Lib.hid hrl
  have HRR2:=Lib.hid hRR
  have HND:=Lib.hid hnd
  have HDE:Hid (D=if zp=true then sub bs at0 nd else []):=Lib.hid (by rw[<-hD,hnd];unfold dat;rw[hzp,HDSUM.out,<-hzp];simp)
  have HPE:Hid (pad=if zp=true then sub bs qh at0 else []):=Lib.hid (by rw[HPAD.out,HQH.out,<-hzp];simp)
  have D1L:=Lib.hid (show D1.length=14 by rw[hD1];rfl)
  have HD1E:=Lib.hid hD1
  have RLB:Hid (r1l<=1000):=Lib.hid (by rw[HR1L.out,HR1E.out];exact rdR_le k _ (by have:=HNL.out;simp;omega))
  have DPC:Hid (∀ DA dc,D1.set 13 (.slice DA dl dc)=pc HD1 EA el ec DA dl dc):=Lib.hid (fun DA dc=>by rw[hD1];rfl)
  clear hdl hnd hrl hRR hD1
  go_upto_if 83 with (fail)
  go_cut [11] (fun s11 wx=>∃ A rc r2 DA dc,∃ Q2:List At,s11=.slice A rl rc/\Hid (Reads (Q2++L2) A (RR.map v8))/\St w0 X (.blk g7 65 (pc HD1 EA el ec DA dl dc)::.own 1 r1 EA el ec (E.map v8)::.own 1 r2 DA dl dc (D.map v8)::.blk g5 217 xs::.blk g4 65 (pc {} none 0 0 none 0 0)::.blk g3 54 F::(Q2++L2)) wx)
  case first =>
   cases zp with
   | false =>
    have E1:=HDE.out
    have E2:=HPE.out
    rw[if_neg (by decide)] at E1 E2
    have E3:dl=0:=by rw[HDL.out,E1];rfl
    have E4:RR=R1:=by rw[HRR2.out,E2];simp
    have E5:rl=r1l:=by rw[HRL.out,E4,<-HR1L.out]
    replace E3:=Lib.hid E3
    replace E4:=Lib.hid E4
    replace E1:=Lib.hid E1
    replace E5:=Lib.hid E5
    clear E2
    go_wp2_with fail
    go_meet;refine⟨A,rc,none,none,0,[],by rw[E5.out],Lib.hid (by rw[E4.out];exact HRR.out),?_⟩;rw[<-DPC.out none 0,E3.out,E1.out,HD1E.out]
    have h2:=hs.nil_own 1 none
    rw[HD1E.out] at h2;exact h2.perm (List.Perm.trans (List.Perm.swap _ _ _) (List.Perm.cons _ (List.Perm.swap _ _ _)))
   | true =>
    have E1:=HDE.out
    have E2:=HPE.out
    rw[if_pos rfl] at E1 E2
    have hp0:0<at0:=of_decide_eq_true hzp
    have hq2:=hat2 hp0
    have hx:=hat3 hp0
    have hq2b:=HQH.out
    have hndb:=HND.out
    have HPLx:=Lib.hid (show at0-qh=pad.length by rw[E2];have:=HNL.out;simp;omega)
    have HDLx:=Lib.hid (show nd-at0=dl by rw[HDL.out,E1];have:=HNL.out;simp;omega)
    have w1:IntKind.i64.wrap ((n:Int)-(d:Int))=(nd:Int):=by rw[IntWalk.i64_in _ (by omega)];omega
    have w3:(at0:Int)<=(nd:Int):=by omega
    have w4:at0<=nd:=by omega
    have w5:(nd:Int)<=(c:Int):=by omega
    have w6:nd<=c:=by omega
    have w7:¬ c=at0:=by omega
    have w8:(qh:Int)<=(at0:Int):=by omega
    have w9:qh<=at0:=by omega
    have wa:(at0:Int)<=(c:Int):=by omega
    have wb:at0<=c:=by omega
    have wc:¬ c=qh:=by omega
    have HPR:Hid (∀ M:List At,Reads (M++L2) (some ⟨g,off+qh,none⟩) (pad.map v8)):=Lib.hid (fun M=>by rw[E2];exact rd_sub (HS2.out.app M) qh at0)
    have HDR:Hid (∀ M:List At,Reads (M++L2) (some ⟨g,off+at0,none⟩) (D.map v8)):=Lib.hid (fun M=>by rw[E1];exact rd_sub (HS2.out.app M) at0 nd)
    have HRM:Hid (∀ M:List At,Reads (M++L2) A (R1.map v8)):=Lib.hid (fun M=>HRR.out.app M)
    have PTS:Hid (∀ M:List At,∀ p∈[(⟨A,rc,R1⟩:Pt),⟨some ⟨g,off+qh,none⟩,c-qh,pad⟩],Reads (M++L2) p.A (p.bs.map v8)):=Lib.hid (by
     intro M p hp;simp only[List.mem_cons,List.not_mem_nil,or_false] at hp
     rcases hp with hp|hp
     ·rw[hp];exact HRM.out M
     ·rw[hp];exact HPR.out M)
    have HRLB:Hid (rl<=70368744177664):=Lib.hid (by
     rw[HRL.out,HRR2.out,List.length_append,<-HPLx.out,<-HR1L.out]
     have:=RLB.out
     omega)
    have hdl2:dl<=70368744177664:=by have:=DLB.out;have:=HDL.out;omega
    clear hx hq2 hp0 hq2b hndb E1 E2
    go_upto_region 11 with (first|((with_reducible refine Se.iL 87 ?_);(refine Se.Ld hs rfl rfl (Cell.blk 2 rfl X0.out) ?_))|((with_reducible refine Se.iL 92 ?_);(refine Se.toL rfl (Se.bsv (o:=⟨some 92,_,_,_,_,_⟩) hs rfl Tryz.underlying203 bysi rfl ([.slice A r1l rc,.slice (some ⟨g,off+qh,none⟩) (at0-qh) (c-qh)]) (by rfl) (by rfl) (by decide) (by decide) (by simp[Value.oneCell']) ?_);clear hs;rintro w g92-hs))|(go_at_call 133;refine Calls.mono (concat_st' (k:=2) (q:=rl) (bs:=RR) hs [⟨A,rc,R1⟩,⟨some ⟨g,off+qh,none⟩,c-qh,pad⟩] rfl (by simp only[List.map_cons,List.map_nil,Pt.v,<-HR1L.out,<-HPLx.out];exact Reads.blk 0 rfl) (PTS.out [_,_,_,_,_,_]) (by rw[HRR2.out];simp[flat]) HRL.out HRLB.out (by omega)) ?_;clear hs;rintro e w ⟨r2x,A2,c2,rfl,hs⟩))
    have hdlx:=HDLx.out
    go_wp2_with (first|((with_reducible refine Se.iN ?_);(refine Se.So 3 hs rfl rfl rfl (by rw[D1L.out];decide) ?_;clear hs;intro w hs;try simp only[pS] at hs))|(go_at_call 66;refine Calls.mono (clone_st hs (HDR.out [_,_,_,_,_,_,_]) HDL.out hdl2) ?_;clear hs;rintro e w ⟨r3,DA,dc,rfl,hs⟩))
    go_meet;replace hs:=hs.pull 2 rfl;replace hs:=hs.pull 2 rfl;replace hs:=hs.pull 7 rfl;replace hs:=hs.pull 7 rfl;replace hs:=hs.pull 7 rfl;replace hs:=hs.pull 5 rfl;replace hs:=hs.pull 7 rfl;replace hs:=hs.pull 7 rfl;simp only[List.eraseIdx_cons_succ,List.eraseIdx_cons_zero] at hs;refine⟨A2,c2,r3,DA,dc,[.own 1 r2x A2 rl c2 (RR.map v8)],rfl,Lib.hid (Reads.own 0 rfl),?_⟩;rw[DPC.out] at hs;exact hs.sub (List.Sublist.cons_cons _ (List.Sublist.cons_cons _ (List.Sublist.cons_cons _ (List.Sublist.cons_cons _ (List.Sublist.cons_cons _ (List.Sublist.cons_cons _ (List.Sublist.cons_cons _ (List.sublist_cons_self _ _))))))))
  case rest =>
   clear hs
   obtain⟨A2,rc2,r2,DA,dc,Q2,rfl,HR2,hs⟩:=hcut
   rename World=>w
   obtain⟨L3,hL3⟩:∃ L3,L3=Q2++L2:=⟨_,rfl⟩
   have HS3:=Lib.hid (show Reads L3 (some ⟨g,off,none⟩) (bs.map v8) by rw[hL3];exact HS2.out.app Q2)
   have hL3s:∀ (w':World) (M:List At),St w0 X (M++L3) w'->St w0 X (M++L) w':=fun w' M h=>by
    rw[hL3] at h;exact HL2S.out w' M (h.sub (List.Sublist.append (List.Sublist.refl _) (List.sublist_append_right _ _)))
   rw[<-hL3] at hs HR2
   have HL3S:=Lib.hid hL3s
   have HRB:Hid (rl<=70368744177664):=Lib.hid (by
    rw[HRL.out,HRR2.out,List.length_append,<-HR1L.out]
    have h1:=RLB.out
    have h2:pad.length<=300:=by rw[HPE.out];split <;> simp;omega
    omega)
   have HZ2:Hid (zeros RR=zr):=Lib.hid (by rw[<-hzr,HRE.out,HRR2.out])
   have CCA:Hid (∀ (M:List At) (w:World),St w0 X (M++L3) w->Calls Tryz.prog 228 #[.int .u8 (k:Int)] w fun e w'=>e=.returned (.bool ca)/\St w0 X (M++L3) w'):=Lib.hid (fun M w hs=>(carries_any k w).mono fun e w' h=>⟨by rw[h.1,hca],by rw[h.2];exact hs⟩)
   have CZ:Hid (∀ (M:List At) (w:World),St w0 X (M++L3) w->Calls Tryz.prog 229 #[.slice A2 rl rc2] w fun e w'=>e=.returned (.bool zr)/\St w0 X (M++L3) w'):=Lib.hid (fun M w hs=>zeros_st hs HRL.out (HR2.out.app M) HRB.out HZ2.out)
   clear hL3 hL3s HDE HPE hzr HRR HRE HR2
   have ST0:Hid (∀ (w':World) (P1:List Value),St w0 X ([.blk g7 65 P1,.own 1 r1 EA el ec (E.map v8),.own 1 r2 DA dl dc (D.map v8),.blk g5 217 xs,.blk g4 65 (pc {} none 0 0 none 0 0),.blk g3 54 F]++L3) w'->St w0 X L w'):=Lib.hid (fun w' P1 h=>(HL3S.out w' _ h).drop.drop.drop.drop.drop.drop)
   replace hs:St w0 X ([.blk g7 65 (pc HD1 EA el ec DA dl dc),.own 1 r1 EA el ec (E.map v8),.own 1 r2 DA dl dc (D.map v8),.blk g5 217 xs,.blk g4 65 (pc {} none 0 0 none 0 0),.blk g3 54 F]++L3) w:=hs
   obtain⟨P1,hP1⟩:∃ P1,P1=pc HD1 EA el ec DA dl dc:=⟨_,rfl⟩
   have P1L:=Lib.hid (show P1.length=14 by rw[hP1];rfl)
   have P10:=Lib.hid (show P1[0]? = some (.int .u8 (k:Int)) by rw[hP1,<-n8k3 hkl,<-HKK.out];rfl)
   have P17:=Lib.hid (show P1[7]? = some (.int .u32 (n32 HD1.ln)) by rw[hP1];rfl)
   have P113:=Lib.hid (show P1[13]? = some (.slice DA dl dc) by rw[hP1];rfl)
   have HP1:=Lib.hid hP1
   rw[<-hP1] at hs;clear hP1
   cases zr with
   | false =>
    have he':e'=363:=by have:=HX1.out;simpa using this
    go_wp2_with (first|(go_at_call 229;refine Calls.mono (CZ.out [_,_,_,_,_,_] _ hs) ?_;clear hs;rintro e w ⟨rfl,hs⟩)|(go_at_call 227;refine Calls.mono (must_f 363 _) ?_;rintro e w' ⟨rfl,rfl⟩))
    exact⟨rfl,.inl ⟨by decide,rfl,ST0.out _ _ hs⟩⟩
   | true =>
   have HX2:=Lib.hid (show e'=(if lb=false then 363 else if v=false then 363 else if x7=false then 365 else 0) by have:=HX1.out;simpa using this)
   clear HX1
   go_upto_if 107 with (first|((with_reducible refine Se.iL 106 ?_);(refine Se.Ld hs rfl rfl (Cell.blk 0 rfl P10.out) ?_))|(go_at_call 229;refine Calls.mono (CZ.out [_,_,_,_,_,_] _ hs) ?_;clear hs;rintro e w ⟨rfl,hs⟩)|(go_at_call 227;refine Calls.mono (must_t 363 _) ?_;rintro e w' ⟨rfl,rfl⟩)|(go_at_call 228;refine Calls.mono (CCA.out [_,_,_,_,_,_] _ hs) ?_;clear hs;rintro e w ⟨rfl,hs⟩))
   go_cut [11] (fun s11 wx=>s11=.slice A2 rl rc2/\Hid (lb=true)/\St w0 X ([.blk g7 65 (pc PP.h EA el ec DA dl dc),.own 1 r1 EA el ec (E.map v8),.own 1 r2 DA dl dc (D.map v8),.blk g5 217 xs,.blk g4 65 (pc {} none 0 0 none 0 0),.blk g3 54 F]++L3) wx)
   case first =>
    cases ca with
    | false =>
     have hnk:¬ (k=6\/k=7):=of_decide_eq_false hca
     have hlt:lb=true:=by rw[HLB.out];unfold lenB;rw[hca];rfl
     have hpe:P1=pc PP.h EA el ec DA dl dc:=by rw[HP1.out,HPPE.out];show pc HD1 _ _ _ _ _ _=pc (clr k HD1) _ _ _ _ _ _;unfold clr;rw[if_neg hnk]
     have HPE2:=Lib.hid hpe
     have HLT:=Lib.hid hlt
     clear hnk hlt hpe
     go_wp2_with fail
     go_meet;rw[HPE2.out] at hs;exact⟨rfl,HLT,hs⟩
    | true =>
     have hk67:k=6\/k=7:=of_decide_eq_true hca
     have hlbe:lb=decide (HD1.ln.toNat=dl):=by
      rw[HLB.out,HDL.out];unfold lenB;rw[hca,HHD.out]
      rcases hk67 with h|h <;> rw[h] <;> rfl
     have ev:(n32 HD1.ln==(dl:Int))=lb:=by rw[hlbe];exact eqI HD1.ln.toNat dl
     have ew:IntKind.i64.wrap (n32 HD1.ln)=n32 HD1.ln:=by
      unfold n32;exact wrapk_nat HD1.ln.isLt
     have hpe:P1.set 7 (.int .u32 0)=pc PP.h EA el ec DA dl dc:=by rw[HP1.out,HPPE.out];show _=pc (clr k HD1) _ _ _ _ _ _;unfold clr;rw[if_pos hk67];rfl
     have HPE2:=Lib.hid hpe
     clear hlbe hpe hk67
     cases lb with
     | false =>
      have he':e'=363:=by have:=HX2.out;simpa using this
      go_wp2_with (first|((with_reducible refine Se.iL 109 ?_);(refine Se.Ld hs rfl rfl (Cell.blk 0 rfl P17.out) ?_))|((with_reducible refine Se.iL 112 ?_);(refine Se.Ld hs rfl rfl (Cell.blk 0 rfl P113.out) ?_))|(go_at_call 227;refine Calls.mono (must_f 363 _) ?_;rintro e w' ⟨rfl,rfl⟩))
      exact⟨rfl,.inl ⟨by decide,rfl,ST0.out _ _ hs⟩⟩
     | true =>
      go_wp2_with (first|((with_reducible refine Se.iL 109 ?_);(refine Se.Ld hs rfl rfl (Cell.blk 0 rfl P17.out) ?_))|((with_reducible refine Se.iL 112 ?_);(refine Se.Ld hs rfl rfl (Cell.blk 0 rfl P113.out) ?_))|((with_reducible refine Se.iN ?_);(refine Se.So 0 hs rfl rfl rfl (by rw[P1L.out];decide) ?_;clear hs;intro w hs;try simp only[pS] at hs))|(go_at_call 227;refine Calls.mono (must_t 363 _) ?_;rintro e w' ⟨rfl,rfl⟩))
      go_meet;rw[HPE2.out] at hs;exact⟨rfl,by first|exact Lib.hid rfl|exact Lib.hid trivial,hs⟩
   case rest =>
    clear hs CZ CCA P17 P113 P10 P1L HP1
    obtain⟨rfl,hlt,hs⟩:=hcut
    rename World=>w
    have HX3:=Lib.hid (show e'=(if v=false then 363 else if x7=false then 365 else 0) by have:=HX2.out;rw[hlt.out] at this;simpa using this)
    clear HX2
    obtain⟨P2,hP2⟩:∃ P2,P2=pc PP.h EA el ec DA dl dc:=⟨_,rfl⟩
    have P2L:=Lib.hid (show P2.length=14 by rw[hP2];rfl)
    have P2O:=Lib.hid (show ∀ v∈P2,v.oneCell'=true by rw[hP2];exact pc_one _ _ _ _ _ _ _)
    have P213:=Lib.hid (show P2[13]? = some (.slice DA dl dc) by rw[hP2];rfl)
    have HP2:=Lib.hid hP2
    rw[<-hP2] at hs;clear hP2
    have HPE3:Hid (PP.en=E/\PP.da=D):=Lib.hid (by rw[HPPE.out];exact⟨rfl,rfl⟩)
    have hell:el<=70368744177664:=by have:=ELB.out;omega
    have hdll:dl<=70368744177664:=by have:=DLB.out;have:=HDL.out;omega
    have CVA:Hid (∀ (w:World),St w0 X ([.blk g7 65 P2,.own 1 r1 EA el ec (E.map v8),.own 1 r2 DA dl dc (D.map v8),.blk g5 217 xs,.blk g4 65 (pc {} none 0 0 none 0 0),.blk g3 54 F]++L3) w->Calls Tryz.prog 162 #[.agg P2.toArray] w fun e w'=>e=.returned (.bool v)/\St w0 X ([.blk g7 65 P2,.own 1 r1 EA el ec (E.map v8),.own 1 r2 DA dl dc (D.map v8),.blk g5 217 xs,.blk g4 65 (pc {} none 0 0 none 0 0),.blk g3 54 F]++L3) w'):=Lib.hid (fun w hs=>by
     rw[HP2.out] at hs ⊢;exact validP_st hs PP (by rw[HPE3.out.1];exact Reads.own 1 rfl) (by rw[HPE3.out.2];exact Reads.own 2 rfl) (by rw[HPE3.out.1];exact HEL.out) (by rw[HPE3.out.2];exact HDL.out) hell hdll hv)
    cases v with
    | false =>
     have he':e'=363:=by have:=HX3.out;simpa using this
     go_wp2_with (first|((with_reducible refine Se.iL 117 ?_);(refine Se.Ldw hs rfl rfl (Reads.blk 0 rfl) (by rw[P2L.out];kernel_rfl) ?_))|(go_at_call 162;refine Calls.mono (CVA.out _ hs) ?_;clear hs;rintro e w ⟨rfl,hs⟩)|(go_at_call 227;refine Calls.mono (must_f 363 _) ?_;rintro e w' ⟨rfl,rfl⟩))
     exact⟨rfl,.inl ⟨by decide,rfl,ST0.out _ _ hs⟩⟩
    | true =>
     have HX4:=Lib.hid (show e'=(if x7=false then 365 else 0) by have:=HX3.out;simpa using this)
     clear HX3
     go_upto_region 17 with (first|((with_reducible refine Se.iL 117 ?_);(refine Se.Ldw hs rfl rfl (Reads.blk 0 rfl) (by rw[P2L.out];kernel_rfl) ?_))|(go_at_call 162;refine Calls.mono (CVA.out _ hs) ?_;clear hs;rintro e w ⟨rfl,hs⟩)|(go_at_call 227;refine Calls.mono (must_t 363 _) ?_;rintro e w' ⟨rfl,rfl⟩))
     go_cut [11] (fun s11 wx=>s11=.slice A2 rl rc2/\Hid (x7=true)/\St w0 X ([.blk g7 65 P2,.own 1 r1 EA el ec (E.map v8),.own 1 r2 DA dl dc (D.map v8),.blk g5 217 xs,.blk g4 65 (pc {} none 0 0 none 0 0),.blk g3 54 F]++L3) wx)
     case first =>
      rcases d04 with h0|h0
      ·have hx7t:x7=true:=by rw[HB7.out,h0];rfl
       have HX7:=Lib.hid hx7t
       have hdz2:((d:Int)==0)=true:=by rw[h0];rfl
       clear h0 hx7t;refine Ch.region' 14 (fun wx=>Blk wx g7 P2 65) (fun|8=>true|11=>true|_=>false) (by kernel_rfl) (by decide +kernel) (hs.drew.hold (.blk g7 65 P2) (by simp)) ?_;replace hs:=hs.drew;generalize w.drew=w at hs ⊢;change Ch.CW _ _ _ _ _ [0,1,2,3,4,5,6,7,8,9,10,11,12,13] _ _
       iterate 3 (refine Ch.pA ?_;(try simp only[pU]))
       iterate 10 (refine Ch.sK ?_;(try simp only[pU]))
       iterate 1 (refine Ch.pA ?_;(try simp only[pU]))
       refine Ch.done ?_
       try simp only[List.drop_succ_cons,List.drop_zero]
       go_wp2_with (first|(go_at_call 227;refine Calls.mono (must_t 365 _) ?_;rintro e w' ⟨rfl,rfl⟩))
       go_meet;exact⟨rfl,HX7,hs⟩
      ·have hdz2:((d:Int)==0)=false:=by rw[h0];rfl
       have hndb:=HND.out
       have w1:IntKind.i64.wrap ((n:Int)-(d:Int))=(nd:Int):=by rw[IntWalk.i64_in _ (by omega)];omega
       have w2:(nd:Int)<=(n:Int):=by omega
       have w3:nd<=n:=by omega
       have w4:(nd:Int)<=(c:Int):=by omega
       have w5:¬ c=nd:=by omega
       have w6:n-nd=4:=by omega
       have w7:(n:Int)<=(c:Int):=by omega
       have CV2:Hid (∀ (M:List At) (w:World),St w0 X (M++L3) w->Calls Tryz.prog 221 #[.slice (some ⟨g,off+nd,none⟩) 4 (c-nd)] w fun e w'=>e=.returned (.int .u32 (n32 (w32 (bs.drop (n-d)))))/\St w0 X (M++L3) w'):=Lib.hid (fun M w hs=>by
        refine(value_any w (bs.drop (n-d)) 4 (c-nd) (by have:=HNL.out;simp;omega) (by omega) ?_).mono (fun e w' k=>⟨k.1,by rw[k.2];exact hs⟩);rw[<-hndb]
        have:=Rd_at ((HS3.out.app M) w hs.hold) nd
        simpa only[List.map_drop] using this)
       have hd00:decide (d=0)=false:=by rw[h0];rfl
       have HX7E:Hid (x7=(w32 (bs.drop (n-d))==crc D)):=Lib.hid (by rw[HB7.out,hd00];rfl)
       clear h0 hndb hd00;refine Ch.region' 14 (fun wx=>Blk wx g7 P2 65) (fun|8=>true|11=>true|_=>false) (by kernel_rfl) (by decide +kernel) (hs.drew.hold (.blk g7 65 P2) (by simp)) ?_;replace hs:=hs.drew;generalize w.drew=w at hs ⊢;change Ch.CW _ _ _ _ _ [0,1,2,3,4,5,6,7,8,9,10,11,12,13] _ _
       iterate 8 (refine Ch.pA ?_;(try simp only[pU]))
       refine Ch.cA (f:=221) (args:=#[.slice (some ⟨g,off+nd,none⟩) 4 (c-nd)]) (CV2.out [_,_,_,_,_,_] _ hs) ?_;clear hs;rintro e w⟨rfl,hs⟩;refine⟨_,rfl,hs.hold (.blk g7 65 P2) (by simp),?_⟩;(try simp only[pU])
       iterate 2 ((first|refine Ch.pA ?_|refine Ch.pE (hv:=fun wx hS=>Se.xL (hc:=(by rw[hS.cell];exact P213.out))) (h:=?_));(try simp only[pU]))
       refine Ch.cA (f:=136) (args:=#[.slice DA dl dc]) (crc_st hs HDL.out (Reads.own 2 rfl) hdll rfl) ?_;clear hs;rintro e w⟨rfl,hs⟩;refine⟨_,rfl,hs.hold (.blk g7 65 P2) (by simp),?_⟩;(try simp only[pU])
       iterate 1 (refine Gd.look (by rfl) ?_;(first|((first|refine Gd.p0 ?_|refine Gd.p1 ?_|refine Gd.b0 ?_|refine Gd.u0 ?_|refine Gd.b1 ?_|refine Gd.u1 ?_);intro _ _)|refine Gd.a0 ?_|refine Gd.a1 ?_);(try simp only[pU]))
       iterate 1 (refine Ch.pA ?_;(try simp only[pU]))
       refine Ch.done ?_
       try simp only[List.drop_succ_cons,List.drop_zero]
       rename_i cc hcc
       have hc7:cc=x7:=by
        rw[HX7E.out,<-n32_beq];exact hcc.out
       have HX7C:=Lib.hid hc7.symm
       clear hc7
       cases cc with
       | false =>
        have he':e'=365:=by have h7:x7=false:=HX7C.out;have:=HX4.out;rw[h7] at this;simpa using this
        go_wp2_with (first|(go_at_call 227;refine Calls.mono (must_f 365 _) ?_;rintro e w' ⟨rfl,rfl⟩))
        exact⟨rfl,.inl ⟨by decide,rfl,ST0.out _ _ hs⟩⟩
       | true =>
        go_wp2_with (first|(go_at_call 227;refine Calls.mono (must_t 365 _) ?_;rintro e w' ⟨rfl,rfl⟩))
        go_meet;exact⟨rfl,HX7C,hs⟩
     case rest =>
      clear hs
      obtain⟨rfl,hx7t,hs⟩:=hcut
      rename World=>w
      have he':e'=0:=by have:=HX4.out;rw[hx7t.out] at this;simpa using this
      have hpp:P=PP:=HXP.out he'
      have HFIN:=Lib.hid (show e'=0/\P=PP from⟨he',hpp⟩)
      clear he' hpp;clear CVA
      go_upto_region 18 with (fail)
      go_cut [11] (fun s11 wx=>s11=.slice A2 rl rc2/\St w0 X ([.blk g7 65 P2,.own 1 r1 EA el ec (E.map v8),.own 1 r2 DA dl dc (D.map v8),.blk g5 217 xs,.blk g4 65 P2,.blk g3 54 F]++L3) wx)
      case first =>
       go_wp2_with (first|((with_reducible refine Se.iL 135 ?_);(refine Se.Ldw hs rfl rfl (Reads.blk 0 rfl) (by rw[P2L.out];kernel_rfl) ?_))|((with_reducible refine Se.iN ?_);(refine Se.Sow 4 hs rfl rfl rfl rfl (P2O.out) (by rw[P2L.out];kernel_rfl) (by rw[P2L.out];rfl) ?_;clear hs;intro w hs;try simp only[pS] at hs)))
       go_meet;exact⟨rfl,hs⟩
      case rest =>
      clear hs
      obtain⟨rfl,hs⟩:=hcut
      rename World=>w
      refine ‹∀ (a:Act) (w:World),Code.wp Tryz.prog Code.ret _ a w->_› _ _ ?_
      refine wp_ret ?_
      try simp only[Exit.inBlock,Exit.then]
      refine Li.bodyPost_blk (by rfl) (by rfl) (hs.hold (.blk g4 65 P2) (by simp)) Tryz.underlying65 rfl (by rw[P2L.out] <;> kernel_rfl) rfl ?_;refine .inr ⟨HFIN.out.1,r1,EA,ec,r2,DA,dc,?_,?_⟩
      ·rw[HFIN.out.2,HP2.out,HPE3.out.1,HPE3.out.2,<-HEL.out,<-HDL.out]
      ·rw[HFIN.out.2,HPE3.out.1,HPE3.out.2,<-HEL.out,<-HDL.out]
       have h9:=(HL3S.out _ _ hs).drop
       exact h9.sub (List.Sublist.cons_cons _ (List.Sublist.cons_cons _ (.cons _ (.cons _ (.cons _ (List.Sublist.refl _))))))
end Pd
end Go.Proofs.YtjnllcnknjlmmaaGreat
namespace Go.Proofs.YtjnllcnknjlmmaaGreat
open Go Go.RowKit
namespace Se
theorem run_results_rc{P:Program}{w0 w:World}{X:List Nat}{L:List At}(hs:St w0 X L w){fn:Func}{tmps:Array Value}{p1 p2:Tmp}{t1 t2:TypeId}{g1 g2:Nat}{xs:List Value}{v:Value}(hr:fn.results=#[.cell p1 t1,.cell p2 t2])
  (h1:tmps.getD p1 undef=.pointer (some ⟨g1,0,none⟩)) (hR:Reads L (some ⟨g1,0,none⟩) xs) (hd:(P.underlying t1).map TypeDesc.isRow=some true) (hi:(P.info? t1).map (·.size)=some xs.length)
  (h2:tmps.getD p2 undef=.pointer (some ⟨g2,0,none⟩)) (hc:Cell L g2 0 v) (hd2:(P.underlying t2).map TypeDesc.isRow=some false):(results fn tmps).run P w=.ok (.tuple #[.agg xs.toArray,v]) w:=by
 have e:results fn tmps=(do
   let vs <-fn.results.mapM (resF tmps)
   pure (if h:vs.size=1 then vs[0] else .tuple vs)):=rfl
 rw[e,hr]
 have l1:=run_loadVar_reads hs hR hd hi
 have l2:(loadVar t2 ⟨g2,0,none⟩).run P w=.ok v w:=by
  simp[loadVar,Sem.run_bind,run_isRow hd2,hc w hs.hold]
 have e2:Sem.run P (Array.mapM (resF tmps) [ResultVar.cell p1 t1,.cell p2 t2].toArray) w=.ok #[.agg xs.toArray,v] w:=by
  rw[List.mapM_toArray,map_eq_pure_bind,Sem.run_bind]
  have:(List.mapM (resF tmps) [ResultVar.cell p1 t1,.cell p2 t2]).run P w=.ok [.agg xs.toArray,v] w:=by
   simp only[List.mapM_cons,List.mapM_nil,Sem.run_bind,Sem.run_pure,Result.andThen_ok,resF,h1,h2,asAddr,l1,l2]
  rw[this];simp
 simp only[Sem.run_bind];rw[e2];simp
end Se
namespace Pd
open Se (St At Reads Cell)
open Li (v8)
variable {w0 w:World} {X:List Nat} {L:List At}
attribute [local irreducible] Calls
theorem dec_err{b:List (BitVec 8)}{f:Fm}{P:PDU}{e:Nat}(h:dec b f=(P,e))(he:e≠0):P={}:=by
 unfold dec at h
 dsimp only at h
 repeat' split at h
 all_goals (cases h;first|rfl|exact absurd rfl he)
theorem decode_st(hs:St w0 X L w)(bs:List (BitVec 8))(f:Fm){S:Option Addr}{n c:Nat}(hn:n=bs.length)(hS:Reads L S (bs.map v8))(hc:n<=c)(hle:n<=70368744177664){P:PDU}{e':Nat}(hd:dec bs f=(P,e')) :
  Calls Tryz.prog 210 #[.slice S n c,fv f] w (DGive P e' w0 X L):=by
 obtain⟨⟨t,e⟩,hm⟩:∃ x,meas bs f=x:=⟨_,rfl⟩
 by_cases h0:e=0/\t=n
 ·obtain⟨rfl,rfl⟩:=h0
  exact decode_fin hs bs f hn hS hc hle hm hd
 ·have he:e≠0\/t≠n:=by
   by_cases h1:e=0
   ·exact .inr fun h2=>h0 ⟨h1,h2⟩
   ·exact .inl h1
  refine(decode_err hs bs f hn hS hc hle hm he hd).mono ?_;rintro r w' ⟨h1,h2,h3⟩;exact .inl ⟨h2,h1,h3⟩
theorem decode1_panic(e m g:Nat)(hs:St w0 X (.blk g 30 [iv m]::L) w):CallsD Tryz.prog 209 #[.pointer (some ⟨g,0,none⟩)] (.panicking [{ v:=.iface 30 (iv e),recovered:=false }]) w fun e' u' w'=>e'=.returned (.tuple #[])/\u'=.panicking [{ v:=.iface 30 (iv e),recovered:=true }]/\St w0 X (.blk g 30 [iv e]::L) w':=by
 have C:=Lib.hid (caught_some e m g hs)
 refine callsD_of_wpS Tryz.func209 rfl fun c₀ cs hu=>?_
 apply wpS_region
 simp[wpOpsS,go_sem,recoverD,hu,Tryz.ntmps209,Exit.thenS];refine Calls.mono C.out ?_;rintro e' w' ⟨rfl,hs'⟩;simp[wpOpsS,go_sem,bodyPostS,results,Tryz.results209];exact hs'
theorem decode1_idle(g:Nat)(hs:St w0 X L w):CallsD Tryz.prog 209 #[.pointer (some ⟨g,0,none⟩)] .returning w fun e' u' w'=>e'=.returned (.tuple #[])/\u'=.returning/\St w0 X L w':=by
 have C:=Lib.hid (caught_none g hs)
 refine callsD_of_wpS Tryz.func209 rfl fun c₀ cs hu=>?_
 apply wpS_region
 simp[wpOpsS,go_sem,recoverD,hu,Tryz.ntmps209,Exit.thenS];refine Calls.mono C.out ?_;rintro e' w' ⟨rfl,hs'⟩;simp[wpOpsS,go_sem,bodyPostS,results,Tryz.results209];exact⟨.returning,by cases c₀;simp_all,rfl,hs'⟩
def DOut(P:PDU)(e:Nat)(w0:World)(X:List Nat)(L:List At)(r:Ending)(w':World):Prop :=
 ∃ r1 EA ec r2 DA dc,r=.returned (.tuple #[.agg (pc P.h EA P.en.length ec DA P.da.length dc).toArray,iv e])/\St w0 X (.own 1 r1 EA P.en.length ec (P.en.map v8)::.own 1 r2 DA P.da.length dc (P.da.map v8)::L) w'
theorem decodeD_st(hs:St w0 X L w)(bs:List (BitVec 8))(f:Fm){S:Option Addr}{n c:Nat}(hn:n=bs.length)(hS:Reads L S (bs.map v8))(hc:n<=c)(hle:n<=70368744177664){P:PDU}{e:Nat}(hd:dec bs f=(P,e)) :
  Calls Tryz.prog 168 #[.slice S n c,fv f] w (DOut P e w0 X L):=by
 obtain⟨F,hF⟩:∃ F,F=fl f:=⟨_,rfl⟩
 have FL:=Lib.hid (show F.length=3 by rw[hF];rfl)
 have HP:=Lib.hid (fun he:e≠0=>dec_err hd he)
 have CD:Hid (∀ (L':List At) (w:World),St w0 X (L'++L) w->Calls Tryz.prog 210 #[.slice S n c,.agg F.toArray] w (DGive P e w0 X (L'++L))):=Lib.hid (fun L' w hs=>by rw[hF,<-fv_eq];exact decode_st hs bs f hn (hS.app L') hc hle hd)
 have ZE:=Lib.hid zErr
 have HZ:=Lib.hid zPdu3
 have hmf:∀ (fn:Fn) (first cap:Array Value) (w:World),(Instr.makeFunc fn first cap).run Tryz.prog w=.ok (.func fn first cap) w:=fun _ _ _ _=>rfl
 rw[fv_eq,<-hF];clear hd hF hS hn hc hle
 by_cases he:e=0
 ·subst he
  have CD2:Hid (∀ (L':List At) (w:World),St w0 X (L'++L) w->Calls Tryz.prog 210 #[.slice S n c,.agg F.toArray] w fun r w'=>∃ r1 EA ec r2 DA dc PC,r=.returned (.agg PC.toArray)/\Hid (PC=pc P.h EA P.en.length ec DA P.da.length dc)/\St w0 X (.own 1 r1 EA P.en.length ec (P.en.map v8)::.own 1 r2 DA P.da.length dc (P.da.map v8)::(L'++L)) w'):=Lib.hid (fun L' w hs=>(CD.out L' w hs).mono (by
   rintro r w' (⟨h,_⟩|⟨_,r1,EA,ec,r2,DA,dc,h1,h2⟩)
   ·exact absurd rfl h
   ·exact⟨r1,EA,ec,r2,DA,dc,_,h1,Lib.hid rfl,h2⟩))
  clear CD HP
  go_enter_defers Tryz.func168,Tryz.ntmps168
  go_wp2_with (first|((with_reducible refine Se.iL 4 ?_);(refine Se.Al hs rfl (HZ.out) ?_;clear hs;rintro w g4-hs))|((with_reducible refine Se.iL 5 ?_);(refine Se.Al hs rfl (ZE.out) ?_;clear hs;rintro w g5-hs))|((with_reducible refine Se.iL 8 ?_);(refine Se.Ldw hs rfl rfl (Reads.blk 2 rfl) (by rw[FL.out];kernel_rfl) ?_))|((with_reducible refine Se.iN ?_);(refine Se.Sow 3 hs rfl rfl rfl rfl (by rw[HPC.out];exact pc_one _ _ _ _ _ _ _) (by rw[HPC.out];kernel_rfl) (by rw[HPC.out];rfl) ?_;clear hs;intro w hs;try simp only[pS] at hs))|((with_reducible refine Se.iN ?_);(refine Se.So 2 hs rfl rfl rfl (by simp) ?_;clear hs;intro w hs;try simp only[pS] at hs))|((first|with_reducible refine Se.ab hs ?_|with_reducible refine Se.abc hs ?_);clear hs;(first|(generalize w.heap.size=g3;intro w hs)))|(go_at_call 210;refine Calls.mono (CD2.out [_,_,_] _ hs) ?_;clear hs;rintro e w ⟨r1,EA,ec,r2,DA,dc,PC,rfl,HPC,hs⟩))
  refine leaves_cons (f:=209) (args:=#[.pointer (some ⟨g5,0,none⟩)]) (by simp) (by simp[go_sem]) ?_;refine(decode1_idle g5 hs).mono ?_;rintro e u' w'' ⟨rfl,rfl,hs⟩;refine⟨_,Se.run_results_rc hs Tryz.results168 rfl (Reads.blk 3 rfl) (by kernel_rfl) (by rw[HPC.out];kernel_rfl) rfl (Cell.blk 2 rfl rfl) (by kernel_rfl),?_⟩;refine⟨r1,EA,ec,r2,DA,dc,by rw[HPC.out];rfl,?_⟩;exact hs.sub (List.Sublist.cons_cons _ (List.Sublist.cons_cons _ (.cons _ (.cons _ (.cons _ (List.Sublist.refl _))))))
 ·have CD2:Hid (∀ (L':List At) (w:World),St w0 X (L'++L) w->Calls Tryz.prog 210 #[.slice S n c,.agg F.toArray] w fun e' w'=>e'=.panicked (chn e)/\St w0 X (L'++L) w'):=Lib.hid (fun L' w hs=>(CD.out L' w hs).mono (by
   rintro r w' (⟨_,h1,h2⟩|⟨h,_⟩)
   ·exact⟨h1,h2⟩
   ·exact absurd h he))
  obtain rfl:=HP.out he
  clear CD HP
  go_enter_defers Tryz.func168,Tryz.ntmps168
  go_wp2_with (first|((with_reducible refine Se.iL 4 ?_);(refine Se.Al hs rfl (HZ.out) ?_;clear hs;rintro w g4-hs))|((with_reducible refine Se.iL 5 ?_);(refine Se.Al hs rfl (ZE.out) ?_;clear hs;rintro w g5-hs))|((with_reducible refine Se.iL 8 ?_);(refine Se.Ldw hs rfl rfl (Reads.blk 2 rfl) (by rw[FL.out];kernel_rfl) ?_))|((first|with_reducible refine Se.ab hs ?_|with_reducible refine Se.abc hs ?_);clear hs;(first|(generalize w.heap.size=g3;intro w hs)))|(go_at_call 210;refine Calls.mono (CD2.out [_,_,_] _ hs) ?_;clear hs;rintro e w ⟨rfl,hs⟩))
  refine leaves_cons (f:=209) (args:=#[.pointer (some ⟨g5,0,none⟩)]) (by simp) (by simp[go_sem]) ?_;refine(decode1_panic e 0 g5 hs).mono ?_;rintro e' u' w'' ⟨rfl,rfl,hs⟩;refine⟨_,Se.run_results_rc hs Tryz.results168 rfl (Reads.blk 1 rfl) (by kernel_rfl) (by kernel_rfl) rfl (Cell.blk 0 rfl rfl) (by kernel_rfl),?_⟩;exact⟨none,none,0,none,none,0,rfl,(hs.drop.drop.drop.nil_own 1 none).nil_own 1 none⟩
end Pd
end Go.Proofs.YtjnllcnknjlmmaaGreat
namespace Go.Proofs.YtjnllcnknjlmmaaGreat
open Go Go.RowKit
namespace Pd
open Se (St At Reads Cell)
open Li (v8)
variable {w0 w:World} {X:List Nat} {L:List At}
attribute [local irreducible] Calls
theorem decodeN_st(hs:St w0 X L w)(bs:List (BitVec 8))(f:Fm){S:Option Addr}{n c:Nat}(hn:n=bs.length)(hS:Reads L S (bs.map v8))(hc:n<=c)(hle:n<=70368744177664){P:PDU}{e:Nat}(hd:dec bs f=(P,e)) :
  Calls Tryz.prog 168 #[.slice S n c,fv f] w fun r w'=>∃ r1 EA ec r2 DA dc PC,r=.returned (.tuple #[.agg PC.toArray,iv e])/\Hid (PC=pc P.h EA P.en.length ec DA P.da.length dc)/\St w0 X (.own 1 r1 EA P.en.length ec (P.en.map v8)::.own 1 r2 DA P.da.length dc (P.da.map v8)::L) w' :=
 (decodeD_st hs bs f hn hS hc hle hd).mono (by
  rintro r w' ⟨r1,EA,ec,r2,DA,dc,h1,h2⟩;exact⟨r1,EA,ec,r2,DA,dc,_,h1,Lib.hid rfl,h2⟩)
end Pd
end Go.Proofs.YtjnllcnknjlmmaaGreat
