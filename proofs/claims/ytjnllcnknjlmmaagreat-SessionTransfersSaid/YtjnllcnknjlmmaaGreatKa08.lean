/- Layer 41. -/
import Derived.Defers
import Derived.Test.YtjnllcnknjlmmaaGreatKa07
set_option linter.unusedSimpArgs false
set_option linter.unusedVariables false
set_option maxRecDepth 100000
set_option maxHeartbeats 4000000
namespace Go.Proofs.YtjnllcnknjlmmaaGreat
open Go Go.RowKit
namespace Pd
open Se (St At Reads Cell)
open Li (v8 Rd Blk)
open Bv (n32)
variable {w0 w:World} {X:List Nat} {L:List At}
attribute [local irreducible] Calls
def chn(e:Nat):List PanicEntry:=[{ v:=.iface 30 (iv e),recovered:=false }]
def mEnd(xs:List Value)(t e:Nat):Ending:=if e=0 then .returned (.tuple #[.agg xs.toArray,iv t]) else .panicked (chn e)
theorem must_t(n:Nat)(w:World):Calls Tryz.prog 227 #[.bool true,.int .i64 n] w fun e w'=>e=.returned (.tuple #[])/\w'=w:=must_any true n w
theorem must_f(n:Nat)(w:World):Calls Tryz.prog 227 #[.bool false,.int .i64 n] w fun e w'=>e=.panicked (chn n)/\w'=w:=must_any false n w
theorem Rd_c{g off:Nat}{xs:List Value}{w:World}(h:Rd w (some ⟨g,off,none⟩) xs)(i:Nat){v:Value}(hv:xs[i]? = some v):w.cell? ⟨g,off+i,none⟩=some v:=by
 obtain⟨g',off',e,h⟩:=Rd_cell h i hv
 cases e
 exact h
theorem Rd_at{g off:Nat}{xs:List Value}{w:World}(h:Rd w (some ⟨g,off,none⟩) xs)(k:Nat):Rd w (some ⟨g,off+k,none⟩) (xs.drop k) :=
 (Reads.at (L:=[.rd (some ⟨g,off,none⟩) xs]) (Reads.rd 0 rfl) k) w (by intro a ha;rw[List.mem_singleton.1 ha];exact h)
theorem nat_beq(a b:Nat):((a:Int)==(b:Int))=decide (a=b):=by rw[Bool.eq_iff_iff];simp only[beq_iff_eq,decide_eq_true_eq];omega
theorem nat_lt(a b:Nat):decide ((a:Int)<(b:Int))=decide (a<b):=by simp only[decide_eq_decide];omega
theorem n32_w32(b:List (BitVec 8))(h:b.length<=4):n32 (w32 b)=(bigL b:Nat):=by
 have h1:=bigL_lt b
 have h2:256 ^ b.length<=256 ^ 4:=Nat.pow_le_pow_right (by omega) h
 unfold n32 w32;rw[BitVec.toNat_ofNat,Nat.mod_eq_of_lt (by omega)]
theorem wrap64_nat{k:Nat}(h:k<4294967296):wrap64 (k:Int)=k:=by rw[<-IntWalk.i64_left];exact IntWalk.i64_in _ (by omega)
theorem wrapk_nat{k:Nat}(h:k<4294967296):IntKind.i64.wrap (k:Int)=k:=IntWalk.i64_in _ (by omega)
theorem beq_sum(a q h:Nat):((a:Int)==(q:Int)+(h:Int))=decide (a=q+h):=by rw[Bool.eq_iff_iff];simp only[beq_iff_eq,decide_eq_true_eq];omega
theorem ge_sum(a d t:Nat):decide ((a:Int)+1+(d:Int)<=(t:Int))=decide (a+1+d<=t):=by simp only[decide_eq_decide];omega
theorem le_sum(t a m d:Nat):decide ((t:Int)<=(a:Int)+(m:Int)+(d:Int))=decide (t<=a+m+d):=by simp only[decide_eq_decide];omega
theorem wr1{a:Nat}(h1:a<256):IntKind.i64.wrap ((a:Int)+1)=(a:Int)+1:=IntWalk.i64_in _ (by omega)
theorem wr2{a d:Nat}(h1:a<256)(h2:d<=4):IntKind.i64.wrap ((a:Int)+1+(d:Int))=(a:Int)+1+(d:Int):=IntWalk.i64_in _ (by omega)
theorem wr3{a m:Nat}(h1:a<256)(h2:m<=1048576):IntKind.i64.wrap ((a:Int)+(m:Int))=(a:Int)+(m:Int):=IntWalk.i64_in _ (by omega)
theorem wr4{a m d:Nat}(h1:a<256)(h2:m<=1048576)(h3:d<=4):IntKind.i64.wrap ((a:Int)+(m:Int)+(d:Int))=(a:Int)+(m:Int)+(d:Int):=IntWalk.i64_in _ (by omega)
theorem wrapk_add{q h:Nat}(h1:q<=128)(h2:h<=4):IntKind.i64.wrap ((q:Int)+(h:Int))=(q:Int)+(h:Int):=IntWalk.i64_in _ (by omega)
theorem chain_eq(b:List (BitVec 8))(f:Fm)(h1:framed f=true)(h2:8<=b.length){k fl hl at0 tot:Nat}(e0:k=(b.getD 0 0#8).toNat)(e1:fl=(b.getD 1 0#8).toNat)(e2:hl=(b.getD 2 0#8).toNat)(e3:at0=(b.getD 3 0#8).toNat)(e4:tot=bigL (sub b 4 8)) :
  mch b f=if decide (hdr k≠0)=false then (0,360) else if c4 k fl=false then (0,361) else if c5 k fl=false then (0,361) else if c6 k fl f=false then (0,361) else if c7 k hl at0 f=false then (0,362) else if c8 k fl at0 f=false then (0,362) else if c9 k at0 tot f=false then (0,362) else (tot,0):=by
 subst e0 e1 e2 e3 e4;unfold mch;rw[if_neg (by rw[h1];decide),if_neg (by omega)]
theorem measure_st(hs:St w0 X L w)(bs:List (BitVec 8))(f:Fm){S:Option Addr}{n c:Nat}(hn:n=bs.length)(hS:Reads L S (bs.map v8))(hc:n<=c)(hle:n<=70368744177664){t e:Nat}(hm:meas bs f=(t,e)){xs:List Value}(hxs:shV (bs.getD 0 0#8).toNat=xs) :
  Calls Tryz.prog 208 #[.slice S n c,fv f] w fun e' w'=>e'=mEnd xs t e/\St w0 X L w':=by
 rw[meas_eq] at hm
 obtain⟨F,hF⟩:∃ F,F=fl f:=⟨_,rfl⟩
 obtain⟨b1,hb1⟩:∃ b,framed f=b:=⟨_,rfl⟩
 have FL:=Lib.hid (show F.length=3 by rw[hF];rfl)
 have CF:Hid (∀ (L':List At) (w:World),St w0 X (L'++L) w->Calls Tryz.prog 161 #[.agg F.toArray] w fun e w'=>e=.returned (.bool b1)/\St w0 X (L'++L) w'):=Lib.hid (fun L' w hs=>by rw[hF,<-fv_eq,<-hb1];exact validFraming_st hs f)
 have CM:=Lib.hid must_f
 have CT:=Lib.hid must_t
 obtain⟨Y,hY⟩:∃ Y,Y=shV 8:=⟨_,rfl⟩
 have Z57:=Lib.hid zShape
 rw[<-hY] at Z57
 have ZSL:=Lib.hid (show Y.length=7 by rw[hY,shV_eq];rfl)
 clear hY;rw[fv_eq,<-hF]
 cases b1 with
 | false =>
  obtain⟨rfl,rfl⟩:t=0/\e=2:=by unfold mch at hm;rw[if_pos hb1] at hm;cases hm;exact⟨rfl,rfl⟩
  clear hm hxs hb1 hF hS hn
  go_enter Tryz.func208,Tryz.ntmps208
  go_wp2_with (first|((with_reducible refine Se.iL 4 ?_);(refine Se.Al hs rfl (Z57.out) ?_;clear hs;rintro w g4-hs))|((with_reducible refine Se.iL 16 ?_);(refine Se.Ldw hs rfl rfl (Reads.blk 1 rfl) (by rw[FL.out];kernel_rfl) ?_))|((first|with_reducible refine Se.ab hs ?_|with_reducible refine Se.abc hs ?_);clear hs;(first|(generalize w.heap.size=g3;intro w hs)))|(go_at_call 161;refine Calls.mono (CF.out [_,_] _ hs) ?_;clear hs;rintro e w ⟨rfl,hs⟩)|(go_at_call 227;refine Calls.mono (CM.out 2 _) ?_;rintro e w' ⟨rfl,rfl⟩))
  exact⟨rfl,rfl,hs.drop.drop⟩
 | true =>
  by_cases h8:8<=n
  case neg =>
   obtain⟨rfl,rfl⟩:t=0/\e=4:=by unfold mch at hm;rw[if_neg (by rw[hb1];decide),if_pos (by omega)] at hm;cases hm;exact⟨rfl,rfl⟩
   have e8:decide ((8:Int)<=(n:Int))=false:=by simp;omega
   clear hm hxs hb1 hF hS hn h8
   go_enter Tryz.func208,Tryz.ntmps208
   go_wp2_with (first|((with_reducible refine Se.iL 4 ?_);(refine Se.Al hs rfl (Z57.out) ?_;clear hs;rintro w g4-hs))|((with_reducible refine Se.iL 16 ?_);(refine Se.Ldw hs rfl rfl (Reads.blk 1 rfl) (by rw[FL.out];kernel_rfl) ?_))|((first|with_reducible refine Se.ab hs ?_|with_reducible refine Se.abc hs ?_);clear hs;(first|(generalize w.heap.size=g3;intro w hs)))|(go_at_call 161;refine Calls.mono (CF.out [_,_] _ hs) ?_;clear hs;rintro e w ⟨rfl,hs⟩)|(go_at_call 227;refine Calls.mono (CT.out 2 _) ?_;rintro e w' ⟨rfl,rfl⟩)|(go_at_call 227;refine Calls.mono (CM.out 4 _) ?_;rintro e w' ⟨rfl,rfl⟩))
   exact⟨rfl,rfl,hs.drop.drop⟩
  case pos =>
   obtain⟨k,hk⟩:∃ k,k=(bs.getD 0 0#8).toNat:=⟨_,rfl⟩
   obtain⟨fg,hfg⟩:∃ k,k=(bs.getD 1 0#8).toNat:=⟨_,rfl⟩
   obtain⟨hl,hhl⟩:∃ k,k=(bs.getD 2 0#8).toNat:=⟨_,rfl⟩
   obtain⟨at0,hat⟩:∃ k,k=(bs.getD 3 0#8).toNat:=⟨_,rfl⟩
   obtain⟨tot,htot⟩:∃ k,k=bigL (sub bs 4 8):=⟨_,rfl⟩
   have hkl:k<256:=by rw[hk];exact(bs.getD 0 0#8).isLt
   have hfl:fg<256:=by rw[hfg];exact(bs.getD 1 0#8).isLt
   have hhll:hl<256:=by rw[hhl];exact(bs.getD 2 0#8).isLt
   have hatl:at0<256:=by rw[hat];exact(bs.getD 3 0#8).isLt
   have hsl:(sub bs 4 8).length=4:=by simp;omega
   have htl:tot<4294967296:=by have:=bigL_lt (sub bs 4 8);rw[hsl] at this;omega
   obtain⟨g,off,rfl⟩:∃ g off,S=some ⟨g,off,none⟩:=by
    obtain⟨g,off,h,_⟩:=Rd_cell (hS w hs.hold) 0 (v8_at bs 0 (by omega))
    exact⟨g,off,h⟩
   have V0:=Lib.hid (show(bs.map v8)[0]? = some (.int .u8 (k:Int)) by rw[hk];exact v8_at bs 0 (by omega))
   have V1:=Lib.hid (show(bs.map v8)[1]? = some (.int .u8 (fg:Int)) by rw[hfg];exact v8_at bs 1 (by omega))
   have V2:=Lib.hid (show(bs.map v8)[2]? = some (.int .u8 (hl:Int)) by rw[hhl];exact v8_at bs 2 (by omega))
   have V3:=Lib.hid (show(bs.map v8)[3]? = some (.int .u8 (at0:Int)) by rw[hat];exact v8_at bs 3 (by omega))
   have CVL:Hid (∀ (L':List At) (w:World),St w0 X (L'++L) w->Calls Tryz.prog 221 #[.slice (some ⟨g,off+4,none⟩) 4 (c-4)] w fun e w'=>e=.returned (.int .u32 (tot:Int))/\St w0 X (L'++L) w'):=Lib.hid (fun L' w hs=>by
    rw[htot,<-n32_w32 _ (by omega)];refine(value_any w (sub bs 4 8) 4 (c-4) hsl.symm (by omega) ?_).mono (fun e w' h=>⟨h.1,by rw[h.2];exact hs⟩)
    have:=Rd_at (((hS.app L') w hs.hold).take 8) 4
    simpa only[<-List.map_take,<-List.map_drop] using this)
   have j4:¬ c=4:=by omega
   have HB0:=chain_eq bs f hb1 (by omega) hk hfg hhl hat htot
   rw[hm] at HB0
   obtain⟨q3,hq3⟩:∃ b,decide (hdr k≠0)=b:=⟨_,rfl⟩
   obtain⟨q4,hq4⟩:∃ b,c4 k fg=b:=⟨_,rfl⟩
   obtain⟨q5,hq5⟩:∃ b,c5 k fg=b:=⟨_,rfl⟩
   obtain⟨q6,hq6⟩:∃ b,c6 k fg f=b:=⟨_,rfl⟩
   obtain⟨q7,hq7⟩:∃ b,c7 k hl at0 f=b:=⟨_,rfl⟩
   obtain⟨q8,hq8⟩:∃ b,c8 k fg at0 f=b:=⟨_,rfl⟩
   obtain⟨q9,hq9⟩:∃ b,c9 k at0 tot f=b:=⟨_,rfl⟩
   rw[hq3,hq4,hq5,hq6,hq7,hq8,hq9] at HB0
   have HB:=Lib.hid HB0
   obtain⟨h,hh⟩:∃ h,hsum k f=h:=⟨_,rfl⟩
   obtain⟨q,hq⟩:∃ q,hdr k=q:=⟨_,rfl⟩
   obtain⟨s,hst⟩:∃ s,start k f=s:=⟨_,rfl⟩
   obtain⟨zp,hzp⟩:∃ b,decide (0<at0)=b:=⟨_,rfl⟩
   obtain⟨d1,hd1⟩:∃ d,dsum k f true=d:=⟨_,rfl⟩
   obtain⟨d,hd⟩:∃ d,dsum k f zp=d:=⟨_,rfl⟩
   obtain⟨lea,hlea⟩:∃ x,least k=x:=⟨_,rfl⟩
   obtain⟨mo,hmo⟩:∃ x,most k=x:=⟨_,rfl⟩
   obtain⟨y0,hy0⟩:∃ b,bit fg 0=b:=⟨_,rfl⟩
   obtain⟨y1,hy1⟩:∃ b,bit fg 1=b:=⟨_,rfl⟩
   obtain⟨y2,hy2⟩:∃ b,bit fg 2=b:=⟨_,rfl⟩
   obtain⟨y3,hy3⟩:∃ b,bit fg 3=b:=⟨_,rfl⟩
   obtain⟨x1,hx1⟩:∃ b,decide (fg<16)=b:=⟨_,rfl⟩
   obtain⟨x3,hx3⟩:∃ b,decide (k=6\/k=7)=b:=⟨_,rfl⟩
   obtain⟨x7,hx7⟩:∃ b,decide (k=7)=b:=⟨_,rfl⟩
   obtain⟨pl,hpl⟩:∃ b,decide (k<=3)=b:=⟨_,rfl⟩
   obtain⟨hp,hhp⟩:∃ b,decide (0<h)=b:=⟨_,rfl⟩
   obtain⟨E1,hE1⟩:∃ b,(y0==hp)=b:=⟨_,rfl⟩
   obtain⟨dp,hdp⟩:∃ b,decide (0<d)=b:=⟨_,rfl⟩
   obtain⟨A7,hA7⟩:∃ b,decide (hl=q)=b:=⟨_,rfl⟩
   obtain⟨Z,hZ⟩:∃ b,decide (at0=0)=b:=⟨_,rfl⟩
   obtain⟨S7,hS7⟩:∃ b,decide (at0=s)=b:=⟨_,rfl⟩
   obtain⟨dd,hdd⟩:∃ b,f.dd=b:=⟨_,rfl⟩
   have H4:Hid ((x1&&(!y2 || x3))=q4):=Lib.hid (by rw[<-hq4,<-hx1,<-hy2,<-hx3];rfl)
   have H5:Hid ((!y3 || (x7&&y2))=q5):=Lib.hid (by rw[<-hq5,<-hy3,<-hx7,<-hy2];rfl)
   have H6:Hid ((E1&&(!y1 || (dd && !pl)))=q6):=Lib.hid (by rw[<-hq6,<-hE1,<-hhp,<-hh,<-hy0,<-hy1,<-hpl,<-hdd];rfl)
   have H7:Hid ((A7&&(Z || S7))=q7):=Lib.hid (by rw[<-hq7,<-hA7,<-hZ,<-hS7,<-hq,<-hst];rfl)
   have H8:Hid ((y1==dp)=q8):=Lib.hid (by rw[<-hq8,<-hy1,<-hdp,<-hd,<-hzp];rfl)
   have H9:Hid ((if at0=0 then decide (lea=0)&&decide (tot=q+h) else decide (0<mo)&&decide (at0+1+d<=tot)&&decide (tot<=at0+mo+d))=q9):=Lib.hid (by rw[<-hq9,<-hlea,<-hmo,<-hq,<-hh,<-hd,<-hzp];rfl)
   have B2:=bit_and2 fg hfl
   have u2:(bits .and .u8 (fg:Int) 4==0) = !y2:=by rw[<-hy2];exact B2.1
   have u3:(bits .and .u8 (fg:Int) 8==0) = !y3:=by rw[<-hy3];exact B2.2.1
   have u1:(bits .and .u8 (fg:Int) 2==0) = !y1:=by rw[<-hy1];exact B2.2.2.1
   have u0:(bits .and .u8 (fg:Int) 1==0) = !y0:=by rw[<-hy0];exact B2.2.2.2
   have n2:(bits .and .u8 (fg:Int) 4 != 0)=y2:=by rw[bne,u2];simp
   have n1:(bits .and .u8 (fg:Int) 2 != 0)=y1:=by rw[bne,u1];simp
   have n0:(bits .and .u8 (fg:Int) 1 != 0)=y0:=by rw[bne,u0];simp
   have v1:decide ((fg:Int)<16)=x1:=by rw[<-hx1];exact nat_lt fg 16
   have v7:((k:Int)==7)=x7:=by rw[<-hx7];exact nat_beq k 7
   have vA:((hl:Int)==(q:Int))=A7:=by rw[<-hA7];exact nat_beq hl q
   have vZ:((at0:Int)==0)=Z:=by rw[<-hZ];exact nat_beq at0 0
   have vS:((at0:Int)==(s:Int))=S7:=by rw[<-hS7];exact nat_beq at0 s
   have F1:=Lib.hid (show F[1]? = some (.bool dd) by rw[hF,<-hdd];rfl)
   rw[<-hk] at hxs
   have XL:=Lib.hid (show xs.length=7 by rw[<-hxs,shV_eq];rfl)
   have X0:=Lib.hid (show xs[0]? = some (iv q) by rw[<-hxs,shV_eq,hq];rfl)
   have X2:=Lib.hid (show xs[2]? = some (iv lea) by rw[<-hxs,shV_eq,hlea];rfl)
   have X3:=Lib.hid (show xs[3]? = some (iv mo) by rw[<-hxs,shV_eq,hmo];rfl)
   have XO:=Lib.hid (show ∀ v∈xs,v.oneCell'=true by rw[<-hxs];exact shV_one k)
   have CO:Hid (∀ (L':List At) (w:World),St w0 X (L'++L) w->Calls Tryz.prog 130 #[.int .u8 (k:Int)] w fun e w'=>e=.returned (.tuple #[.agg xs.toArray,.bool q3])/\St w0 X (L'++L) w'):=Lib.hid (fun L' w hs=>of_st hs k hkl hq3 hxs)
   have CD1:Hid (∀ (L':List At) (w:World),St w0 X (L'++L) w->Calls Tryz.prog 131 #[.int .u8 (k:Int),.agg F.toArray,.bool true] w fun e w'=>e=.returned (.tuple #[iv h,iv d1])/\St w0 X (L'++L) w'):=Lib.hid (fun L' w hs=>by rw[hF,<-fv_eq];exact digests_st hs k f true hh hd1)
   have CD:Hid (∀ (L':List At) (w:World),St w0 X (L'++L) w->Calls Tryz.prog 131 #[.int .u8 (k:Int),.agg F.toArray,.bool zp] w fun e w'=>e=.returned (.tuple #[iv h,iv d])/\St w0 X (L'++L) w'):=Lib.hid (fun L' w hs=>by rw[hF,<-fv_eq];exact digests_st hs k f zp hh hd)
   have CS:Hid (∀ (L':List At) (w:World),St w0 X (L'++L) w->Calls Tryz.prog 132 #[.int .u8 (k:Int),.agg xs.toArray,.agg F.toArray] w fun e w'=>e=.returned (iv s)/\St w0 X (L'++L) w'):=Lib.hid (fun L' w hs=>by rw[hF,<-fv_eq];exact start_st hs k hb1 hxs hst)
   have CC:Hid (∀ w:World,Calls Tryz.prog 228 #[.int .u8 (k:Int)] w fun e w'=>e=.returned (.bool x3)/\w'=w):=Lib.hid (fun w=>by rw[<-hx3];exact carries_any k w)
   have CP:Hid (∀ w:World,Calls Tryz.prog 164 #[.int .u8 (k:Int)] w fun e w'=>e=.returned (.bool pl)/\w'=w):=Lib.hid (fun w=>by rw[<-hpl];exact plain_any k w)
   have hql:q<=128:=by rw[<-hq];exact hdr_le k
   have hhle:h<=4:=by rw[<-hh];exact hsum_le k f
   have hdl:d<=4:=by rw[<-hd];exact dsum_le k f zp
   have hmol:mo<=1048576:=by rw[<-hmo];unfold most;split <;> omega
   have HS:=Lib.hid hS
   have i0:(0:Int)<(n:Int):=by omega
   have i1:(1:Int)<(n:Int):=by omega
   have i2:(2:Int)<(n:Int):=by omega
   have i3:(3:Int)<(n:Int):=by omega
   have i8:(8:Int)<=(c:Int):=by omega
   have j0:0<n:=by omega
   have j1:1<n:=by omega
   have j2:2<n:=by omega
   have j3:3<n:=by omega
   have j8:8<=c:=by omega
   have e8:decide ((8:Int)<=(n:Int))=true:=by simp;omega
   have wk:=wrap64_nat (Nat.lt_trans hkl (by decide))
   have wh:=wrap64_nat (Nat.lt_trans hhll (by decide))
   have wa:=wrap64_nat (Nat.lt_trans hatl (by decide))
   have wt:=wrap64_nat htl
   have wh':=wrapk_nat (Nat.lt_trans hhll (by decide))
   have wa':=wrapk_nat (Nat.lt_trans hatl (by decide))
   have wt':=wrapk_nat htl
   clear hm hb1 hF hn hk hfg hhl hat htot hsl hS hxs HB0 hq3 hq4 hq5 hq6 hq7 hq8 hq9 hh hq hst hd hd1 hlea hmo hy0 hy1 hy2 hy3 hx1 hx3 hx7 hpl hA7 hS7 hdd B2 u0
   go_enter Tryz.func208,Tryz.ntmps208
   go_upto_region 3 with (first|((with_reducible refine Se.iL 4 ?_);(refine Se.Al hs rfl (Z57.out) ?_;clear hs;rintro w g4-hs))|((with_reducible refine Se.iL 16 ?_);(refine Se.Ldw hs rfl rfl (Reads.blk 1 rfl) (by rw[FL.out];kernel_rfl) ?_))|((first|with_reducible refine Se.ab hs ?_|with_reducible refine Se.abc hs ?_);clear hs;(first|(generalize w.heap.size=g3;intro w hs)))|(go_at_call 161;refine Calls.mono (CF.out [_,_] _ hs) ?_;clear hs;rintro e w ⟨rfl,hs⟩)|(go_at_call 227;refine Calls.mono (CT.out 2 _) ?_;rintro e w' ⟨rfl,rfl⟩)|(go_at_call 227;refine Calls.mono (CT.out 4 _) ?_;rintro e w' ⟨rfl,rfl⟩))
   refine Ch.region' 18 (fun wx=>Rd wx (some ⟨g,off,none⟩) (bs.map v8)) (fun|12=>true|_=>false) (by kernel_rfl) (by decide +kernel) (HS.out _ (fun a ha=>hs.drew.hold a (by simp[ha]))) ?_;replace hs:=hs.drew;generalize w.drew=w at hs ⊢;change Ch.CW _ _ _ _ _ [0,1,2,3,4,5,6,7,8,9,10,11,12,13,14,15,16,17] _ _
   iterate 12 ((first|refine Ch.pA ?_|refine Ch.pE (hv:=fun wx hS=>Se.xL (hc:=(Rd_c hS 0 V0.out))) (h:=?_)|refine Ch.pE (hv:=fun wx hS=>Se.xL (hc:=(Rd_c hS 1 V1.out))) (h:=?_)|refine Ch.pE (hv:=fun wx hS=>Se.xL (hc:=(Rd_c hS 3 V3.out))) (h:=?_));(try simp only[pU]))
   refine Ch.cA (f:=221) (args:=#[.slice (some ⟨g,off+4,none⟩) 4 (c-4)]) (CVL.out [_,_] _ hs) ?_;clear hs;rintro e w⟨rfl,hs⟩;refine⟨_,rfl,HS.out _ (fun a ha=>hs.hold a (by simp[ha])),?_⟩;(try simp only[pU])
   iterate 5 (refine Ch.pA ?_;(try simp only[pU]))
   refine Ch.done ?_
   try simp only[List.drop_succ_cons,List.drop_zero]
   go_upto_region 5 with (first|((with_reducible refine Se.iL 10 ?_);(refine Se.Al hs rfl (Z57.out) ?_;clear hs;rintro w g10-hs))|((with_reducible refine Se.iN ?_);(refine Se.Sow 0 hs rfl rfl rfl rfl (XO.out) (by rw[XL.out];kernel_rfl) (by rw[XL.out,ZSL.out]) ?_;clear hs;intro w hs;try simp only[pS] at hs))|(go_at_call 130;refine Calls.mono (CO.out [_,_] _ hs) ?_;clear hs;rintro e w ⟨rfl,hs⟩))
   cases q3 with
   | false =>
    obtain⟨rfl,rfl⟩:t=0/\e=360:=by have:=HB.out;simpa using this
    go_wp2_with (first|(go_at_call 227;refine Calls.mono (CM.out 360 _) ?_;rintro e w' ⟨rfl,rfl⟩))
    exact⟨rfl,rfl,hs.drop.drop.drop⟩
   | true =>
    go_upto_region 7 with (first|((with_reducible refine Se.iL 46 ?_);(refine Se.Ldw hs rfl rfl (Reads.blk 2 rfl) (by rw[FL.out];kernel_rfl) ?_))|(go_at_call 227;refine Calls.mono (CT.out 360 _) ?_;rintro e w' ⟨rfl,rfl⟩)|(go_at_call 131;refine Calls.mono (CD1.out [_,_,_] _ hs) ?_;clear hs;rintro e w ⟨rfl,hs⟩))
    cases q4 with
    | false =>
     obtain⟨rfl,rfl⟩:t=0/\e=361:=by have:=HB.out;simpa using this
     cases x1 with
     | false =>
      go_wp2_with (first|(go_at_call 227;refine Calls.mono (CM.out 361 _) ?_;rintro e w' ⟨rfl,rfl⟩))
      exact⟨rfl,rfl,hs.drop.drop.drop⟩
     | true =>
      cases y2 with
      | false =>
       exact absurd H4.out (by simp)
      | true =>
       cases x3 with
       | false =>
        go_wp2_with (first|(go_at_call 228;refine Calls.mono (CC.out _) ?_;rintro e w' ⟨rfl,rfl⟩)|(go_at_call 227;refine Calls.mono (CM.out 361 _) ?_;rintro e w' ⟨rfl,rfl⟩))
        exact⟨rfl,rfl,hs.drop.drop.drop⟩
       | true =>
        exact absurd H4.out (by simp)
    | true =>
     go_cut [12] (fun s12 wx=>s12=iv h/\St w0 X ([.blk g10 217 xs,.blk g4 217 Y,.blk g3 54 F]++L) wx)
     case first =>
      cases x1 with
      | false =>
       exact absurd H4.out (by simp)
      | true =>
       cases y2 with
       | false =>
        go_wp2_with (first|(go_at_call 227;refine Calls.mono (CT.out 361 _) ?_;rintro e w' ⟨rfl,rfl⟩))
        go_meet;exact⟨rfl,hs⟩
       | true =>
        cases x3 with
        | false =>
         exact absurd H4.out (by simp)
        | true =>
         go_wp2_with (first|(go_at_call 228;refine Calls.mono (CC.out _) ?_;rintro e w' ⟨rfl,rfl⟩)|(go_at_call 227;refine Calls.mono (CT.out 361 _) ?_;rintro e w' ⟨rfl,rfl⟩))
         go_meet;exact⟨rfl,hs⟩
     case rest =>
      clear hs
      obtain⟨rfl,hs⟩:=hcut
      rename World=>w
      go_upto_region 8 with (fail)
      cases q5 with
      | false =>
       obtain⟨rfl,rfl⟩:t=0/\e=361:=by have:=HB.out;simpa using this
       cases y3 with
       | false =>
        exact absurd H5.out (by simp)
       | true =>
        cases x7 with
        | false =>
         go_wp2_with (first|(go_at_call 227;refine Calls.mono (CM.out 361 _) ?_;rintro e w' ⟨rfl,rfl⟩))
         exact⟨rfl,rfl,hs.drop.drop.drop⟩
        | true =>
         cases y2 with
         | false =>
          go_wp2_with (first|(go_at_call 227;refine Calls.mono (CM.out 361 _) ?_;rintro e w' ⟨rfl,rfl⟩))
          exact⟨rfl,rfl,hs.drop.drop.drop⟩
         | true =>
          exact absurd H5.out (by simp)
      | true =>
       go_cut [12] (fun s12 wx=>s12=iv h/\St w0 X ([.blk g10 217 xs,.blk g4 217 Y,.blk g3 54 F]++L) wx)
       case first =>
        cases y3 with
        | false =>
         go_wp2_with (first|(go_at_call 227;refine Calls.mono (CT.out 361 _) ?_;rintro e w' ⟨rfl,rfl⟩))
         go_meet;exact⟨rfl,hs⟩
        | true =>
         cases x7 with
         | false =>
          exact absurd H5.out (by simp)
         | true =>
          cases y2 with
          | false =>
           exact absurd H5.out (by simp)
          | true =>
           go_wp2_with (first|(go_at_call 227;refine Calls.mono (CT.out 361 _) ?_;rintro e w' ⟨rfl,rfl⟩))
           go_meet;exact⟨rfl,hs⟩
       case rest =>
        clear hs
        obtain⟨rfl,hs⟩:=hcut
        rename World=>w
        go_upto_region 9 with (fail)
        cases q6 with
        | false =>
         obtain⟨rfl,rfl⟩:t=0/\e=361:=by have:=HB.out;simpa using this
         cases E1 with
         | false =>
          go_wp2_with (first|(go_at_call 227;refine Calls.mono (CM.out 361 _) ?_;rintro e w' ⟨rfl,rfl⟩))
          exact⟨rfl,rfl,hs.drop.drop.drop⟩
         | true =>
          cases y1 with
          | false =>
           exact absurd H6.out (by simp)
          | true =>
           cases dd with
           | false =>
            go_wp2_with (first|((with_reducible refine Se.iL 87 ?_);(refine Se.Ld hs rfl rfl (Cell.blk 2 rfl F1.out) ?_))|(go_at_call 227;refine Calls.mono (CM.out 361 _) ?_;rintro e w' ⟨rfl,rfl⟩))
            exact⟨rfl,rfl,hs.drop.drop.drop⟩
           | true =>
            cases pl with
            | false =>
             exact absurd H6.out (by simp)
            | true =>
             go_wp2_with (first|((with_reducible refine Se.iL 87 ?_);(refine Se.Ld hs rfl rfl (Cell.blk 2 rfl F1.out) ?_))|(go_at_call 164;refine Calls.mono (CP.out _) ?_;rintro e w' ⟨rfl,rfl⟩)|(go_at_call 227;refine Calls.mono (CM.out 361 _) ?_;rintro e w' ⟨rfl,rfl⟩))
             exact⟨rfl,rfl,hs.drop.drop.drop⟩
        | true =>
         go_cut [12] (fun s12 wx=>s12=iv h/\St w0 X ([.blk g10 217 xs,.blk g4 217 Y,.blk g3 54 F]++L) wx)
         case first =>
          cases E1 with
          | false =>
           exact absurd H6.out (by simp)
          | true =>
           cases y1 with
           | false =>
            go_wp2_with (first|(go_at_call 227;refine Calls.mono (CT.out 361 _) ?_;rintro e w' ⟨rfl,rfl⟩))
            go_meet;exact⟨rfl,hs⟩
           | true =>
            cases dd with
            | false =>
             exact absurd H6.out (by simp)
            | true =>
             cases pl with
             | false =>
              go_wp2_with (first|((with_reducible refine Se.iL 87 ?_);(refine Se.Ld hs rfl rfl (Cell.blk 2 rfl F1.out) ?_))|(go_at_call 164;refine Calls.mono (CP.out _) ?_;rintro e w' ⟨rfl,rfl⟩)|(go_at_call 227;refine Calls.mono (CT.out 361 _) ?_;rintro e w' ⟨rfl,rfl⟩))
              go_meet;exact⟨rfl,hs⟩
             | true =>
              exact absurd H6.out (by simp)
         case rest =>
          clear hs
          obtain⟨rfl,hs⟩:=hcut
          rename World=>w
          go_upto_region 10 with (fail)
          cases q7 with
          | false =>
           obtain⟨rfl,rfl⟩:t=0/\e=362:=by have:=HB.out;simpa using this
           cases A7 with
           | false =>
            refine Ch.region' 19 (fun wx=>Rd wx (some ⟨g,off,none⟩) (bs.map v8)/\Blk wx g10 xs 217/\Blk wx g3 F 54) (fun|15=>true|_=>false) (by kernel_rfl) (by decide +kernel) (⟨HS.out _ (fun a ha=>hs.drew.hold a (by simp[ha])),hs.drew.hold (.blk g10 217 xs) (by simp),hs.drew.hold (.blk g3 54 F) (by simp)⟩) ?_;replace hs:=hs.drew;generalize w.drew=w at hs ⊢;change Ch.CW _ _ _ _ _ [0,1,2,3,4,5,6,7,8,9,10,11,12,13,14,15,16,17,18] _ _
            iterate 8 ((first|refine Ch.pA ?_|refine Ch.pE (hv:=fun wx hS=>Se.xL (hc:=(Rd_c hS.1 2 V2.out))) (h:=?_)|refine Ch.pE (hv:=fun wx hS=>Se.xL (hc:=(by simpa only[hS.2.1.cell] using X0.out))) (h:=?_)|refine Ch.pE (hv:=fun wx hS=>Se.xR (hr:=(Li.Rd.of_blk hS.2.1)) (hi:=(by rw[XL.out] <;> kernel_rfl))) (h:=?_)|refine Ch.pE (hv:=fun wx hS=>Se.xR (hr:=(Li.Rd.of_blk hS.2.2)) (hi:=(by rw[FL.out] <;> kernel_rfl))) (h:=?_));(try simp only[pU]))
            iterate 10 (refine Ch.sK ?_;(try simp only[pU]))
            iterate 1 (refine Ch.pA ?_;(try simp only[pU]))
            refine Ch.done ?_
            try simp only[List.drop_succ_cons,List.drop_zero]
            go_wp2_with (first|(go_at_call 227;refine Calls.mono (CM.out 362 _) ?_;rintro e w' ⟨rfl,rfl⟩))
            exact⟨rfl,rfl,hs.drop.drop.drop⟩
           | true =>
            cases Z with
            | false =>
             cases S7 with
             | false =>
              refine Ch.region' 19 (fun wx=>Rd wx (some ⟨g,off,none⟩) (bs.map v8)/\Blk wx g10 xs 217/\Blk wx g3 F 54) (fun|15=>true|_=>false) (by kernel_rfl) (by decide +kernel) (⟨HS.out _ (fun a ha=>hs.drew.hold a (by simp[ha])),hs.drew.hold (.blk g10 217 xs) (by simp),hs.drew.hold (.blk g3 54 F) (by simp)⟩) ?_;replace hs:=hs.drew;generalize w.drew=w at hs ⊢;change Ch.CW _ _ _ _ _ [0,1,2,3,4,5,6,7,8,9,10,11,12,13,14,15,16,17,18] _ _
              iterate 15 ((first|refine Ch.pA ?_|refine Ch.pE (hv:=fun wx hS=>Se.xL (hc:=(Rd_c hS.1 2 V2.out))) (h:=?_)|refine Ch.pE (hv:=fun wx hS=>Se.xL (hc:=(by simpa only[hS.2.1.cell] using X0.out))) (h:=?_)|refine Ch.pE (hv:=fun wx hS=>Se.xR (hr:=(Li.Rd.of_blk hS.2.1)) (hi:=(by rw[XL.out] <;> kernel_rfl))) (h:=?_)|refine Ch.pE (hv:=fun wx hS=>Se.xR (hr:=(Li.Rd.of_blk hS.2.2)) (hi:=(by rw[FL.out] <;> kernel_rfl))) (h:=?_));(try simp only[pU]))
              refine Ch.cA (f:=132) (args:=#[.int .u8 (k:Int),.agg xs.toArray,.agg F.toArray]) (CS.out [_,_,_] _ hs) ?_;clear hs;rintro e w⟨rfl,hs⟩;refine⟨_,rfl,⟨HS.out _ (fun a ha=>hs.hold a (by simp[ha])),hs.hold (.blk g10 217 xs) (by simp),hs.hold (.blk g3 54 F) (by simp)⟩,?_⟩;(try simp only[pU])
              iterate 3 (refine Ch.pA ?_;(try simp only[pU]))
              refine Ch.done ?_
              try simp only[List.drop_succ_cons,List.drop_zero]
              go_wp2_with (first|(go_at_call 227;refine Calls.mono (CM.out 362 _) ?_;rintro e w' ⟨rfl,rfl⟩))
              exact⟨rfl,rfl,hs.drop.drop.drop⟩
             | true =>
              exact absurd H7.out (by simp)
            | true =>
             exact absurd H7.out (by simp)
          | true =>
           go_cut [12] (fun s12 wx=>s12=iv h/\St w0 X ([.blk g10 217 xs,.blk g4 217 Y,.blk g3 54 F]++L) wx)
           case first =>
            cases A7 with
            | false =>
             exact absurd H7.out (by simp)
            | true =>
             cases Z with
             | false =>
              cases S7 with
              | false =>
               exact absurd H7.out (by simp)
              | true =>
               refine Ch.region' 19 (fun wx=>Rd wx (some ⟨g,off,none⟩) (bs.map v8)/\Blk wx g10 xs 217/\Blk wx g3 F 54) (fun|15=>true|_=>false) (by kernel_rfl) (by decide +kernel) (⟨HS.out _ (fun a ha=>hs.drew.hold a (by simp[ha])),hs.drew.hold (.blk g10 217 xs) (by simp),hs.drew.hold (.blk g3 54 F) (by simp)⟩) ?_;replace hs:=hs.drew;generalize w.drew=w at hs ⊢;change Ch.CW _ _ _ _ _ [0,1,2,3,4,5,6,7,8,9,10,11,12,13,14,15,16,17,18] _ _
               iterate 15 ((first|refine Ch.pA ?_|refine Ch.pE (hv:=fun wx hS=>Se.xL (hc:=(Rd_c hS.1 2 V2.out))) (h:=?_)|refine Ch.pE (hv:=fun wx hS=>Se.xL (hc:=(by simpa only[hS.2.1.cell] using X0.out))) (h:=?_)|refine Ch.pE (hv:=fun wx hS=>Se.xR (hr:=(Li.Rd.of_blk hS.2.1)) (hi:=(by rw[XL.out] <;> kernel_rfl))) (h:=?_)|refine Ch.pE (hv:=fun wx hS=>Se.xR (hr:=(Li.Rd.of_blk hS.2.2)) (hi:=(by rw[FL.out] <;> kernel_rfl))) (h:=?_));(try simp only[pU]))
               refine Ch.cA (f:=132) (args:=#[.int .u8 (k:Int),.agg xs.toArray,.agg F.toArray]) (CS.out [_,_,_] _ hs) ?_;clear hs;rintro e w⟨rfl,hs⟩;refine⟨_,rfl,⟨HS.out _ (fun a ha=>hs.hold a (by simp[ha])),hs.hold (.blk g10 217 xs) (by simp),hs.hold (.blk g3 54 F) (by simp)⟩,?_⟩;(try simp only[pU])
               iterate 3 (refine Ch.pA ?_;(try simp only[pU]))
               refine Ch.done ?_
               try simp only[List.drop_succ_cons,List.drop_zero]
               go_wp2_with (first|(go_at_call 227;refine Calls.mono (CT.out 362 _) ?_;rintro e w' ⟨rfl,rfl⟩))
               go_meet;exact⟨rfl,hs⟩
             | true =>
              refine Ch.region' 19 (fun wx=>Rd wx (some ⟨g,off,none⟩) (bs.map v8)/\Blk wx g10 xs 217/\Blk wx g3 F 54) (fun|15=>true|_=>false) (by kernel_rfl) (by decide +kernel) (⟨HS.out _ (fun a ha=>hs.drew.hold a (by simp[ha])),hs.drew.hold (.blk g10 217 xs) (by simp),hs.drew.hold (.blk g3 54 F) (by simp)⟩) ?_;replace hs:=hs.drew;generalize w.drew=w at hs ⊢;change Ch.CW _ _ _ _ _ [0,1,2,3,4,5,6,7,8,9,10,11,12,13,14,15,16,17,18] _ _
              iterate 11 ((first|refine Ch.pA ?_|refine Ch.pE (hv:=fun wx hS=>Se.xL (hc:=(Rd_c hS.1 2 V2.out))) (h:=?_)|refine Ch.pE (hv:=fun wx hS=>Se.xL (hc:=(by simpa only[hS.2.1.cell] using X0.out))) (h:=?_)|refine Ch.pE (hv:=fun wx hS=>Se.xR (hr:=(Li.Rd.of_blk hS.2.1)) (hi:=(by rw[XL.out] <;> kernel_rfl))) (h:=?_)|refine Ch.pE (hv:=fun wx hS=>Se.xR (hr:=(Li.Rd.of_blk hS.2.2)) (hi:=(by rw[FL.out] <;> kernel_rfl))) (h:=?_));(try simp only[pU]))
              iterate 6 (refine Ch.sK ?_;(try simp only[pU]))
              iterate 2 (refine Ch.pA ?_;(try simp only[pU]))
              refine Ch.done ?_
              try simp only[List.drop_succ_cons,List.drop_zero]
              go_wp2_with (first|(go_at_call 227;refine Calls.mono (CT.out 362 _) ?_;rintro e w' ⟨rfl,rfl⟩))
              go_meet;exact⟨rfl,hs⟩
           case rest =>
            clear hs
            obtain⟨rfl,hs⟩:=hcut
            rename World=>w
            have H8':=H8.out
            go_upto_region 12 with (first|((with_reducible refine Se.iL 118 ?_);(refine Se.Ldw hs rfl rfl (Reads.blk 2 rfl) (by rw[FL.out];kernel_rfl) ?_))|(go_at_call 131;refine Calls.mono (CD.out [_,_,_] _ hs) ?_;clear hs;rintro e w ⟨rfl,hs⟩))
            cases q8 with
            | false =>
             obtain⟨rfl,rfl⟩:t=0/\e=362:=by have:=HB.out;simpa using this
             go_wp2_with (first|(go_at_call 227;refine Calls.mono (CM.out 362 _) ?_;rintro e w' ⟨rfl,rfl⟩))
             exact⟨rfl,rfl,hs.drop.drop.drop⟩
            | true =>
             go_upto_if 132 with (first|(go_at_call 227;refine Calls.mono (CT.out 362 _) ?_;rintro e w' ⟨rfl,rfl⟩))
             clear H8' H8 n0 n1 n2 u1 u2 u3 v1 v7 vA vS hE1 hhp hdp hzp
             go_cut [15] (fun s15 wx=>s15=iv d/\q9=true/\St w0 X ([.blk g10 217 xs,.blk g4 217 Y,.blk g3 54 F]++L) wx)
             case first =>
              cases Z with
              | true =>
               have hz:at0=0:=by simpa using hZ
               have e9:=H9.out
               rw[if_pos hz] at e9
               have e1:=wrapk_add hql hhle
               obtain⟨l0,hl0⟩:∃ b,decide (lea=0)=b:=⟨_,rfl⟩
               obtain⟨t0,ht0⟩:∃ b,decide (tot=q+h)=b:=⟨_,rfl⟩
               have vl:((lea:Int)==0)=l0:=by rw[<-hl0];exact nat_beq lea 0
               have vt:((tot:Int)==(q:Int)+(h:Int))=t0:=by rw[<-ht0];exact beq_sum tot q h
               rw[hl0,ht0] at e9
               have E9:=Lib.hid e9
               clear e9 hl0 ht0 hZ hz
               cases l0 with
               | false =>
                obtain rfl:q9=false:=E9.out.symm
                obtain⟨rfl,rfl⟩:t=0/\e=362:=by have:=HB.out;simpa using this
                go_wp2_with (first|((with_reducible refine Se.iL 134 ?_);(refine Se.Ld hs rfl rfl (Cell.blk 0 rfl X2.out) ?_))|(go_at_call 227;refine Calls.mono (CM.out 362 _) ?_;rintro e w' ⟨rfl,rfl⟩))
                exact⟨rfl,rfl,hs.drop.drop.drop⟩
               | true =>
                cases t0 with
                | false =>
                 obtain rfl:q9=false:=E9.out.symm
                 obtain⟨rfl,rfl⟩:t=0/\e=362:=by have:=HB.out;simpa using this
                 go_wp2_with (first|((with_reducible refine Se.iL 134 ?_);(refine Se.Ld hs rfl rfl (Cell.blk 0 rfl X2.out) ?_))|((with_reducible refine Se.iL 139 ?_);(refine Se.Ld hs rfl rfl (Cell.blk 0 rfl X0.out) ?_))|(go_at_call 227;refine Calls.mono (CM.out 362 _) ?_;rintro e w' ⟨rfl,rfl⟩))
                 exact⟨rfl,rfl,hs.drop.drop.drop⟩
                | true =>
                 obtain rfl:q9=true:=E9.out.symm
                 go_wp2_with (first|((with_reducible refine Se.iL 134 ?_);(refine Se.Ld hs rfl rfl (Cell.blk 0 rfl X2.out) ?_))|((with_reducible refine Se.iL 139 ?_);(refine Se.Ld hs rfl rfl (Cell.blk 0 rfl X0.out) ?_))|(go_at_call 227;refine Calls.mono (CT.out 362 _) ?_;rintro e w' ⟨rfl,rfl⟩))
                 go_meet;exact⟨rfl,trivial,hs⟩
              | false =>
               have hz:¬ at0=0:=by simpa using hZ
               have e9:=H9.out
               rw[if_neg hz] at e9
               have e1:=wr1 hatl
               have e2:=wr2 hatl hdl
               have e3:=wr3 hatl hmol
               have e4:=wr4 hatl hmol hdl
               obtain⟨m0,hm0⟩:∃ b,decide (0<mo)=b:=⟨_,rfl⟩
               obtain⟨g0,hg0⟩:∃ b,decide (at0+1+d<=tot)=b:=⟨_,rfl⟩
               obtain⟨l0,hl0⟩:∃ b,decide (tot<=at0+mo+d)=b:=⟨_,rfl⟩
               have vg:decide ((at0:Int)+1+(d:Int)<=(tot:Int))=g0:=by rw[<-hg0];exact ge_sum at0 d tot
               have vl:decide ((tot:Int)<=(at0:Int)+(mo:Int)+(d:Int))=l0:=by rw[<-hl0];exact le_sum tot at0 mo d
               rw[hm0,hg0,hl0] at e9
               have E9:=Lib.hid e9
               clear e9 hg0 hl0 hZ hz
               cases m0 with
               | false =>
                obtain rfl:q9=false:=E9.out.symm
                obtain⟨rfl,rfl⟩:t=0/\e=362:=by have:=HB.out;simpa using this
                go_wp2_with (first|((with_reducible refine Se.iL 146 ?_);(refine Se.Ld hs rfl rfl (Cell.blk 0 rfl X3.out) ?_))|(go_at_call 227;refine Calls.mono (CM.out 362 _) ?_;rintro e w' ⟨rfl,rfl⟩))
                exact⟨rfl,rfl,hs.drop.drop.drop⟩
               | true =>
                cases g0 with
                | false =>
                 obtain rfl:q9=false:=E9.out.symm
                 obtain⟨rfl,rfl⟩:t=0/\e=362:=by have:=HB.out;simpa using this
                 go_wp2_with (first|((with_reducible refine Se.iL 146 ?_);(refine Se.Ld hs rfl rfl (Cell.blk 0 rfl X3.out) ?_))|(go_at_call 227;refine Calls.mono (CM.out 362 _) ?_;rintro e w' ⟨rfl,rfl⟩))
                 exact⟨rfl,rfl,hs.drop.drop.drop⟩
                | true =>
                 cases l0 with
                 | false =>
                  obtain rfl:q9=false:=E9.out.symm
                  obtain⟨rfl,rfl⟩:t=0/\e=362:=by have:=HB.out;simpa using this
                  go_wp2_with (first|((with_reducible refine Se.iL 146 ?_);(refine Se.Ld hs rfl rfl (Cell.blk 0 rfl X3.out) ?_))|((with_reducible refine Se.iL 160 ?_);(refine Se.Ld hs rfl rfl (Cell.blk 0 rfl X3.out) ?_))|(go_at_call 227;refine Calls.mono (CM.out 362 _) ?_;rintro e w' ⟨rfl,rfl⟩))
                  exact⟨rfl,rfl,hs.drop.drop.drop⟩
                 | true =>
                  obtain rfl:q9=true:=E9.out.symm
                  go_wp2_with (first|((with_reducible refine Se.iL 146 ?_);(refine Se.Ld hs rfl rfl (Cell.blk 0 rfl X3.out) ?_))|((with_reducible refine Se.iL 160 ?_);(refine Se.Ld hs rfl rfl (Cell.blk 0 rfl X3.out) ?_))|(go_at_call 227;refine Calls.mono (CT.out 362 _) ?_;rintro e w' ⟨rfl,rfl⟩))
                  go_meet;exact⟨rfl,trivial,hs⟩
             case rest =>
              clear hs
              obtain⟨rfl,rfl,hs⟩:=hcut
              rename World=>w
              obtain⟨rfl,rfl⟩:t=tot/\e=0:=by have:=HB.out;simpa using this
              simp only[List.cons_append,List.nil_append] at hs
              go_upto_region 16 with (fail)
              go_cut [5] (fun s5 wx=>s5=iv t/\St w0 X (.blk g10 217 xs::.blk g4 217 xs::.blk g3 54 F::L) wx)
              case first =>
               go_wp2_with (first|((with_reducible refine Se.iL 167 ?_);(refine Se.Ldw hs rfl rfl (Reads.blk 0 rfl) (by rw[XL.out];kernel_rfl) ?_))|((with_reducible refine Se.iN ?_);(refine Se.Sow 1 hs rfl rfl rfl rfl (XO.out) (by rw[XL.out];kernel_rfl) (by rw[XL.out,ZSL.out]) ?_;clear hs;intro w hs;try simp only[pS] at hs)))
               go_meet;exact⟨rfl,hs⟩
              case rest =>
               obtain⟨rfl,hs⟩:=hcut
               refine ‹∀ (a:Act) (w:World),Code.wp Tryz.prog Code.ret _ a w->_› _ _ ?_
               refine wp_ret ?_;refine Se.ret hs [.agg xs.toArray,iv t] rfl ⟨Se.resRow rfl (Reads.blk 1 rfl) (by kernel_rfl) (by rw[XL.out];kernel_rfl),rfl,trivial⟩ (by simp) rfl ?_;exact⟨rfl,hs.drop.drop.drop⟩
end Pd
end Go.Proofs.YtjnllcnknjlmmaaGreat
namespace Go.Proofs.YtjnllcnknjlmmaaGreat
open Go Go.RowKit
namespace Pd
open Se (St At)
variable {w0 w:World} {X:List Nat} {L:List At}
attribute [local irreducible] Calls
theorem ta_errno(v:Value)(w:World):(Instr.typeAssert (.iface 30 v) 20 30 false).run Tryz.prog w=.ok v w:=by kernel_rfl
theorem caught_some(e m g:Nat)(hs:St w0 X (.blk g 30 [iv m]::L) w):Calls Tryz.prog 207 #[.iface 30 (iv e),.pointer (some ⟨g,0,none⟩)] w fun e' w'=>e'=.returned (.tuple #[])/\St w0 X (.blk g 30 [iv e]::L) w':=by
 have ta:=ta_errno
 go_enter Tryz.func207,Tryz.ntmps207
 go_wp2_with (first|((with_reducible refine Se.iN ?_);(refine Se.So 0 hs rfl rfl rfl (by simp) ?_;clear hs;intro w hs;try simp only[pS] at hs)))
 go_end0
 exact⟨rfl,hs⟩
theorem caught_none(g:Nat)(hs:St w0 X L w):Calls Tryz.prog 207 #[.nilIface,.pointer (some ⟨g,0,none⟩)] w fun e' w'=>e'=.returned (.tuple #[])/\St w0 X L w':=by
 go_enter Tryz.func207,Tryz.ntmps207
 go_wp2_with fail
 go_end0
 exact⟨rfl,hs⟩
theorem measure1_panic(e m g:Nat)(hs:St w0 X (.blk g 30 [iv m]::L) w):CallsD Tryz.prog 206 #[.pointer (some ⟨g,0,none⟩)] (.panicking [{ v:=.iface 30 (iv e),recovered:=false }]) w fun e' u' w'=>e'=.returned (.tuple #[])/\u'=.panicking [{ v:=.iface 30 (iv e),recovered:=true }]/\St w0 X (.blk g 30 [iv e]::L) w':=by
 have C:=Lib.hid (caught_some e m g hs)
 refine callsD_of_wpS Tryz.func206 rfl fun c₀ cs hu=>?_
 apply wpS_region
 simp[wpOpsS,go_sem,recoverD,hu,Tryz.ntmps206,Exit.thenS];refine Calls.mono C.out ?_;rintro e' w' ⟨rfl,hs'⟩;simp[wpOpsS,go_sem,bodyPostS,results,Tryz.results206];exact hs'
theorem measure1_idle(g:Nat)(hs:St w0 X L w):CallsD Tryz.prog 206 #[.pointer (some ⟨g,0,none⟩)] .returning w fun e' u' w'=>e'=.returned (.tuple #[])/\u'=.returning/\St w0 X L w':=by
 have C:=Lib.hid (caught_none g hs)
 refine callsD_of_wpS Tryz.func206 rfl fun c₀ cs hu=>?_
 apply wpS_region
 simp[wpOpsS,go_sem,recoverD,hu,Tryz.ntmps206,Exit.thenS];refine Calls.mono C.out ?_;rintro e' w' ⟨rfl,hs'⟩;simp[wpOpsS,go_sem,bodyPostS,results,Tryz.results206];exact⟨.returning,by cases c₀;simp_all,rfl,hs'⟩
end Pd
end Go.Proofs.YtjnllcnknjlmmaaGreat
namespace Go.Proofs.YtjnllcnknjlmmaaGreat
open Go Go.RowKit
namespace Pd
open Se (St At Reads)
open Li (v8)
variable {w0 w:World} {X:List Nat} {L:List At}
attribute [local irreducible] Calls
theorem zErr:(Tryz.prog.info? 30).bind (fun i=>i.zero.map (·.cells.toList))=some [iv 0]:=by kernel_rfl
theorem meas_err{b:List (BitVec 8)}{f:Fm}{t e:Nat}(h:meas b f=(t,e))(he:e≠0):t=0:=by
 rw[meas_eq] at h;unfold mch at h
 dsimp only at h
 repeat' split at h
 all_goals (cases h;first|rfl|exact absurd rfl he)
theorem run_results2(hs:St w0 X L w){tmps:Array Value}{v:Value}{g:Nat}{m:Nat}(h1:tmps.getD 4 undef=v)(h2:tmps.getD 5 undef=.pointer (some ⟨g,0,none⟩))(hr:Reads L (some ⟨g,0,none⟩) [iv m])(hu:Tryz.prog.underlying 30=some (.int .i64))(hi:(Tryz.prog.info? 30).map (·.size)=some 1):(results Tryz.f167 tmps).run Tryz.prog w=.ok (.tuple #[v,iv m]) w:=by
 have hc:w.cell? ⟨g,0,none⟩=some (iv m):=by
  have:=(hr w hs.hold)
  obtain⟨g',off',e,h⟩:=Rd_cell this 0 (v:=iv m) rfl
  cases e
  exact h
 have h1':tmps[4]?.getD undef=v:=by simpa using h1
 have h2':tmps[5]?.getD undef=.pointer (some ⟨g,0,none⟩):=by simpa using h2
 simp[results,Tryz.results167,go_sem,h1',h2',hc]
theorem measureD_st(hs:St w0 X L w)(bs:List (BitVec 8))(f:Fm){S:Option Addr}{n c:Nat}(hn:n=bs.length)(hS:Reads L S (bs.map v8))(hc:n<=c)(hle:n<=70368744177664){t e:Nat}(hm:meas bs f=(t,e)) :
  Calls Tryz.prog 167 #[.slice S n c,fv f] w fun e' w'=>e'=.returned (.tuple #[iv t,iv e])/\St w0 X L w':=by
 obtain⟨F,hF⟩:∃ F,F=fl f:=⟨_,rfl⟩
 obtain⟨xs,hxs⟩:∃ xs,shV (bs.getD 0 0#8).toNat=xs:=⟨_,rfl⟩
 have FL:=Lib.hid (show F.length=3 by rw[hF];rfl)
 have HT:=Lib.hid (fun he:e≠0=>meas_err hm he)
 have CM:Hid (∀ (L':List At) (w:World),St w0 X (L'++L) w->Calls Tryz.prog 208 #[.slice S n c,.agg F.toArray] w fun e' w'=>e'=mEnd xs t e/\St w0 X (L'++L) w'):=Lib.hid (fun L' w hs=>by rw[hF,<-fv_eq];exact measure_st hs bs f hn (hS.app L') hc hle hm hxs)
 have ZE:=Lib.hid zErr
 have hmf:∀ (fn:Fn) (first cap:Array Value) (w:World),(Instr.makeFunc fn first cap).run Tryz.prog w=.ok (.func fn first cap) w:=fun _ _ _ _=>rfl
 rw[fv_eq,<-hF];clear hm hxs hF hS hn hc hle
 by_cases he:e=0
 ·subst he
  have CM2:Hid (∀ (L':List At) (w:World),St w0 X (L'++L) w->Calls Tryz.prog 208 #[.slice S n c,.agg F.toArray] w fun e' w'=>e'=.returned (.tuple #[.agg xs.toArray,iv t])/\St w0 X (L'++L) w'):=CM
  clear CM HT
  go_enter_defers Tryz.func167,Tryz.ntmps167
  go_wp2_with (first|((with_reducible refine Se.iL 5 ?_);(refine Se.Al hs rfl (ZE.out) ?_;clear hs;rintro w g5-hs))|((with_reducible refine Se.iL 9 ?_);(refine Se.Ldw hs rfl rfl (Reads.blk 1 rfl) (by rw[FL.out];kernel_rfl) ?_))|((with_reducible refine Se.iN ?_);(refine Se.So 0 hs rfl rfl rfl (by simp) ?_;clear hs;intro w hs;try simp only[pS] at hs))|((first|with_reducible refine Se.ab hs ?_|with_reducible refine Se.abc hs ?_);clear hs;(first|(generalize w.heap.size=g3;intro w hs)))|(go_at_call 208;refine Calls.mono (CM2.out [_,_] _ hs) ?_;clear hs;rintro e w ⟨rfl,hs⟩))
  refine leaves_cons (f:=206) (args:=#[.pointer (some ⟨g5,0,none⟩)]) (by simp) (by simp[go_sem]) ?_;refine(measure1_idle g5 hs).mono ?_;rintro e u' w'' ⟨rfl,rfl,hs⟩;refine⟨_,run_results2 hs rfl rfl (Reads.blk 0 rfl) Tryz.underlying30 (by kernel_rfl),rfl,hs.drop.drop⟩
 ·have CM2:Hid (∀ (L':List At) (w:World),St w0 X (L'++L) w->Calls Tryz.prog 208 #[.slice S n c,.agg F.toArray] w fun e' w'=>e'=.panicked (chn e)/\St w0 X (L'++L) w'):=Lib.hid (by have:=CM.out;unfold mEnd at this;rwa [if_neg he] at this)
  obtain rfl:=HT.out he
  clear CM HT
  go_enter_defers Tryz.func167,Tryz.ntmps167
  go_wp2_with (first|((with_reducible refine Se.iL 5 ?_);(refine Se.Al hs rfl (ZE.out) ?_;clear hs;rintro w g5-hs))|((with_reducible refine Se.iL 9 ?_);(refine Se.Ldw hs rfl rfl (Reads.blk 1 rfl) (by rw[FL.out];kernel_rfl) ?_))|((first|with_reducible refine Se.ab hs ?_|with_reducible refine Se.abc hs ?_);clear hs;(first|(generalize w.heap.size=g3;intro w hs)))|(go_at_call 208;refine Calls.mono (CM2.out [_,_] _ hs) ?_;clear hs;rintro e w ⟨rfl,hs⟩))
  refine leaves_cons (f:=206) (args:=#[.pointer (some ⟨g5,0,none⟩)]) (by simp) (by simp[go_sem]) ?_;refine(measure1_panic e 0 g5 hs).mono ?_;rintro e' u' w'' ⟨rfl,rfl,hs⟩;refine⟨_,run_results2 hs rfl rfl (Reads.blk 0 rfl) Tryz.underlying30 (by kernel_rfl),rfl,hs.drop.drop⟩
end Pd
end Go.Proofs.YtjnllcnknjlmmaaGreat
namespace Go.Proofs.YtjnllcnknjlmmaaGreat
open Go Go.RowKit
namespace Pd
open Li (v8 Rd)
open Bv (n8)
def strB(bs:List (BitVec 8)):ByteArray:=strOfNums (bs.map n8)
theorem run_str{P:Program}(w:World){src dst e:TypeId}(h1:P.underlying src=some (.slice e))(h2:P.underlying e=some (.int .u8))(h3:P.underlying dst=some .string){A:Option Addr}{n c:Nat}{bs:List (BitVec 8)}(hn:n=bs.length)(hr:Rd w A (bs.map v8)):(convert src dst (.slice A n c)).run P w=.ok (.string (strB bs)) w:=by
 subst hn
 by_cases hb:bs=[]
 ·subst hb
  cases A with
  | none=>exact run_convert_bytes_nil w src e h1 h2 _ _ dst h3
  | some p =>
   obtain⟨g,off,t⟩:=p
   rw[run_convert_bytes_string w src dst e _ _ c h1 h2 h3]
   have hl:(loadCells ⟨g,off,t⟩ 0).run P w=.ok #[] w:=by
    have:=run_loadCells_list (P:=P) w ⟨g,off,t⟩ [] (fun j v h=>by simp at h)
    simpa using this
   exact run_bytesToString w _ 0 c [] hl
 ·obtain⟨g,off,rfl,h⟩:=Rd_cell hr 0 (v8_at bs 0 (List.length_pos_iff.2 hb))
  refine run_convert_bytes_arg w src e h1 h2 g off bs.length c (bs.map n8) (by simp) (fun i hi=>?_) dst h3
  obtain⟨g',off',he,h⟩:=Rd_cell hr i (v8_at bs i hi)
  cases he
  rw[h];simp[hi]
end Pd
namespace Se
open Pd Li
end Se
end Go.Proofs.YtjnllcnknjlmmaaGreat
namespace Go.Proofs.YtjnllcnknjlmmaaGreat
open Go Go.RowKit
namespace Pd
open Se (At)
variable {w0 w:World} {X:List Nat} {L:List At}
attribute [local irreducible] Calls
attribute [local go_sem] Gd.pk_or
theorem eqI(a b:Nat):((a:Int)==(b:Int))=decide (a=b):=by rw[Bool.eq_iff_iff];simp;omega
end Pd
end Go.Proofs.YtjnllcnknjlmmaaGreat
