/- Layer 41. -/
import Derived.RangeFuncSeq
import Derived.OrdersIn
import Derived.TacticsIn
import Derived.Shelf.Abstract
import Derived.Test.YtjnllcnknjlmmaaGreatKa08
set_option linter.unusedSimpArgs false
set_option linter.unusedVariables false
set_option maxRecDepth 100000
set_option maxHeartbeats 4000000
namespace Go.Proofs.YtjnllcnknjlmmaaGreat
namespace Pd
def rdH(k:Nat)(s:List (BitVec 8))(h:Hd):Hd:=match k with
 | 0|1=>{ h with al:=s.getD 2 0#8,dg:=s.getD 3 0#8,mx:=w32 (sub s 4 8) }
 | 2|3=>{ h with st:=w16 (s.take 2),nf:=w32 (sub s 2 6) }
 | 4|5=>h
 | _=>{ h with id:=w16 (s.take 2),tg:=w16 (sub s 2 4),of:=w32 (sub s 4 8),ln:=w32 (sub s 8 12) }
def rdE(k:Nat)(s:List (BitVec 8)):List (BitVec 8):=match k with
 | 4|5=>s
 | _=>[]
def rdR(k:Nat)(s:List (BitVec 8)):List (BitVec 8):=match k with
 | 0|1=>s.take 2++s.drop 8
 | 2|3=>s.drop 6
 | 4|5=>[]
 | _=>s.drop 12
def clr(k:Nat)(h:Hd):Hd:=if k=6\/k=7 then { h with ln:=0#32 } else h
theorem zeros_append(a b:List (BitVec 8)):zeros (a++b)=(zeros a&&zeros b):=by unfold zeros;exact List.all_append
theorem hdr_cases{k:Nat}(h:hdr k≠0):k=0\/k=1\/k=2\/k=3\/k=4\/k=5\/k=6\/k=7\/k=9:=by
 unfold hdr at h
 split at h <;> first|omega|(exact absurd rfl h)
def hd0(k fl:Nat):Hd:={ k:=BitVec.ofNat 8 k,la:=bit fl 2,su:=bit fl 3 }
def lenB(k:Nat)(s:List (BitVec 8))(n:Nat):Bool := !decide (k=6\/k=7) || decide ((w32 (sub s 8 12)).toNat=n)
theorem w32_toNat(a:List (BitVec 8))(h:a.length<=4):(w32 a).toNat=bigL a:=by
 have h1:=bigL_lt a
 have:256 ^ a.length<=256 ^ 4:=Nat.pow_le_pow_right (by omega) h
 unfold w32;rw[BitVec.toNat_ofNat];omega
theorem parse_eq{k:Nat}(fl:Nat)(s data:List (BitVec 8))(hk:hdr k≠0) :
  parse k fl s data=({ h:=clr k (rdH k s (hd0 k fl)),en:=rdE k s,da:=data },zeros (rdR k s)&&lenB k s data.length):=by
 have e0:sub s 0 2=s.take 2:=by simp
 have e8:=w32_toNat (sub s 8 12) (by simp;omega)
 rcases hdr_cases hk with rfl|rfl|rfl|rfl|rfl|rfl|rfl|rfl|rfl <;> simp[parse,clr,rdH,rdE,rdR,hd0,lenB,zeros_append,e0] <;> first|rfl|(rw[e8];rfl)|rw[e8]
def B3(b:List (BitVec 8))(f:Fm)(k:Nat):Bool:=decide (hsum k f=0) || (w32 (sub b (hdr k) (hdr k+hsum k f))==crc (b.take (hdr k)))
def dat(b:List (BitVec 8))(f:Fm)(k at0 t:Nat):List (BitVec 8):=if 0<at0 then sub b at0 (t-dsum k f (decide (0<at0))) else []
def rest(b:List (BitVec 8))(f:Fm)(k at0:Nat):List (BitVec 8):=rdR k (sub b 8 (hdr k))++if 0<at0 then sub b (hdr k+hsum k f) at0 else []
def pdu(b:List (BitVec 8))(f:Fm)(k fl at0 t:Nat):PDU:={ h:=clr k (rdH k (sub b 8 (hdr k)) (hd0 k fl)),en:=rdE k (sub b 8 (hdr k)),da:=dat b f k at0 t }
def B7(b:List (BitVec 8))(f:Fm)(k at0 t:Nat):Bool:=decide (dsum k f (decide (0<at0))=0) || (w32 (b.drop (t-dsum k f (decide (0<at0))))==crc (dat b f k at0 t))
def chainD(b:List (BitVec 8))(f:Fm)(k fl at0 t:Nat):Nat :=
 if B3 b f k=false then 364 else
 if zeros (rest b f k at0)=false then 363 else
 if lenB k (sub b 8 (hdr k)) (dat b f k at0 t).length=false then 363 else
 if valid (pdu b f k fl at0 t)=false then 363 else
 if B7 b f k at0 t=false then 365 else 0
theorem hsum_or(k:Nat)(f:Fm):hsum k f=0\/hsum k f=4:=by unfold hsum;split <;> simp
theorem dsum_or(k:Nat)(f:Fm)(x:Bool):dsum k f x=0\/dsum k f x=4:=by unfold dsum;split <;> simp
theorem meas_ok{b:List (BitVec 8)}{f:Fm}{t:Nat}(h:meas b f=(t,0)) :
  framed f=true/\8<=b.length/\hdr (b.getD 0 0#8).toNat≠0/\(b.getD 2 0#8).toNat=hdr (b.getD 0 0#8).toNat/\t=bigL (sub b 4 8) /\
  (((b.getD 3 0#8).toNat=0/\t=hdr (b.getD 0 0#8).toNat+hsum (b.getD 0 0#8).toNat f) \/
   (0<(b.getD 3 0#8).toNat/\(b.getD 3 0#8).toNat=start (b.getD 0 0#8).toNat f/\(b.getD 3 0#8).toNat+1+dsum (b.getD 0 0#8).toNat f true<=t/\t<=(b.getD 3 0#8).toNat+most (b.getD 0 0#8).toNat+dsum (b.getD 0 0#8).toNat f true)):=by
 unfold meas at h
 by_cases h1:framed f=false
 ·rw[if_pos h1] at h;cases h
 rw[if_neg h1] at h
 by_cases h2:b.length<8
 ·rw[if_pos h2] at h;cases h
 rw[if_neg h2] at h
 dsimp only at h
 generalize (b.getD 0 0#8).toNat=k at h ⊢;generalize (b.getD 1 0#8).toNat=fl at h ⊢;generalize (b.getD 2 0#8).toNat=hl at h ⊢;generalize (b.getD 3 0#8).toNat=at0 at h ⊢
 split at h
 ·cases h
 rename_i h3
 split at h
 ·cases h
 split at h
 ·cases h
 rename_i h5
 split at h
 ·cases h
 rename_i h6;simp only[Prod.mk.injEq,and_true] at h;refine⟨by simpa using h1,by omega,h3,by omega,h.symm,?_⟩
 by_cases h0:at0=0
 ·left;subst h0;refine⟨rfl,?_⟩;simp at h6;omega
 ·right
  have h7:decide (0<at0)=true:=by simp;omega
  rw[h7] at h6;refine⟨by omega,by omega,by omega,by omega⟩
theorem start_pos{k:Nat}{f:Fm}(h:framed f=true)(hk:hdr k≠0):hdr k+hsum k f<=start k f:=by
 have h2:0<=f.al/\f.al<=31:=of_decide_eq_true h
 have h1:1<=unit k f:=by unfold unit;split <;> omega
 unfold start
 have:=Nat.div_add_mod (hdr k+hsum k f+unit k f-1) (unit k f)
 have h2:=Nat.mod_lt (hdr k+hsum k f+unit k f-1) (show 0<unit k f by omega)
 rw[Nat.mul_comm] at this;omega
theorem dec_eq{b:List (BitVec 8)}{f:Fm}{t:Nat}(hm:meas b f=(t,0)) :
  dec b f=if b.length<t then ({},4) else if t<b.length then ({},366) else
   if chainD b f (b.getD 0 0#8).toNat (b.getD 1 0#8).toNat (b.getD 3 0#8).toNat t=0 then (pdu b f (b.getD 0 0#8).toNat (b.getD 1 0#8).toNat (b.getD 3 0#8).toNat t,0)
   else ({},chainD b f (b.getD 0 0#8).toNat (b.getD 1 0#8).toNat (b.getD 3 0#8).toNat t):=by
 obtain⟨q1,q2,q3,q4,q5,q6⟩:=meas_ok hm
 unfold dec;rw[hm]
 dsimp only
 rw[if_neg (by decide:¬ (0:Nat)≠0)]
 by_cases h1:b.length<t
 ·rw[if_pos h1,if_pos h1]
 rw[if_neg h1,if_neg h1]
 by_cases h2:t<b.length
 ·rw[if_pos h2,if_pos h2]
 rw[if_neg h2,if_neg h2];generalize (b.getD 0 0#8).toNat=k at *
 generalize (b.getD 1 0#8).toNat=fl at *
 generalize (b.getD 2 0#8).toNat=hl at *
 generalize (b.getD 3 0#8).toNat=at0 at *
 have hbt:b.length=t:=by omega
 have hst:=start_pos q1 q3
 have hlen:hdr k+hsum k f<=t:=by rcases q6 with ⟨_,h⟩|⟨_,h,h',_⟩ <;> omega
 have e3:(0<hsum k f/\sub b (hdr k) (hdr k+4)≠numL (crc (b.take (hdr k))) 4)↔B3 b f k=false:=by
  unfold B3
  rcases hsum_or k f with h|h
  ·simp[h]
  ·rw[h]
   have:=numL_eq_iff (sub b (hdr k) (hdr k+4)) (by simp;omega) (crc (b.take (hdr k)))
   simp only[Nat.lt_irrefl,Nat.zero_lt_succ,true_and,Bool.or_eq_false_iff,beq_eq_false_iff_ne,ne_eq,this];simp
 have e7:(0<dsum k f (decide (0<at0))/\b.drop (t-4)≠numL (crc (dat b f k at0 t)) 4)↔B7 b f k at0 t=false:=by
  unfold B7
  rcases dsum_or k f (decide (0<at0)) with h|h
  ·simp[h]
  ·rw[h]
   have h8:4<=t:=by
    rcases q6 with ⟨h0,_⟩|⟨_,_,h',_⟩
    ·subst h0;simp[dsum] at h
    ·omega
   have:=numL_eq_iff (b.drop (t-4)) (by simp;omega) (crc (dat b f k at0 t))
   simp only[Nat.lt_irrefl,Nat.zero_lt_succ,true_and,Bool.or_eq_false_iff,beq_eq_false_iff_ne,ne_eq,this];simp
 have ep:=parse_eq fl (sub b 8 (hdr k)) (dat b f k at0 t) q3
 have ed:(if 0<at0 then sub b at0 (t-dsum k f (decide (0<at0))) else [])=dat b f k at0 t:=rfl
 rw[ed];simp only[e3,e7,ep]
 have er:zeros (rest b f k at0)=(zeros (rdR k (sub b 8 (hdr k)))&&zeros (if 0<at0 then sub b (hdr k+hsum k f) at0 else [])):=zeros_append _ _
 unfold chainD;rw[er]
 have evp:({ h:=clr k (rdH k (sub b 8 (hdr k)) (hd0 k fl)),en:=rdE k (sub b 8 (hdr k)),da:=dat b f k at0 t }:PDU)=pdu b f k fl at0 t:=rfl
 rw[evp];generalize B3 b f k=x3;generalize zeros (rdR k (sub b 8 (hdr k)))=z1;generalize zeros (if 0<at0 then sub b (hdr k+hsum k f) at0 else [])=z2;generalize lenB k (sub b 8 (hdr k)) (dat b f k at0 t).length=l1;generalize valid (pdu b f k fl at0 t)=v;generalize B7 b f k at0 t=x7
 cases x3 <;> cases z1 <;> cases z2 <;> cases l1 <;> cases v <;> cases x7 <;> rfl
end Pd
end Go.Proofs.YtjnllcnknjlmmaaGreat
namespace Go.Proofs.YtjnllcnknjlmmaaGreat
open Go Go.RowKit
namespace Pd
open Se (St At Reads)
open Li (v8 Rd)
open Bv (n8 n16 n32)
variable {w0 w:World} {X:List Nat} {L:List At} {P:List Value} {gp:Nat}
attribute [local irreducible] Calls
theorem rd_sub{L:List At}{g off:Nat}{bs:List (BitVec 8)}(h:Reads L (some ⟨g,off,none⟩) (bs.map v8))(i j:Nat):Reads L (some ⟨g,off+i,none⟩) ((sub bs i j).map v8):=by
 have:=(h.take j).at i
 simpa only[sub,List.map_take,List.map_drop] using this
theorem value_at{g off c:Nat}{bs:List (BitVec 8)}(h:Reads L (some ⟨g,off,none⟩) (bs.map v8))(i j m:Nat)(hm:m=j-i)(h4:m<=4)(hj:j<=bs.length){A:Addr}(hA:A=⟨g,off+i,none⟩) :
  Hid (∀ (L':List At) (w:World),St w0 X (L'++L) w->Calls Tryz.prog 221 #[.slice (some A) m c] w fun e w'=>e=.returned (.int .u32 (n32 (w32 (sub bs i j))))/\St w0 X (L'++L) w'):=Lib.hid (fun L' w hs=>by
 subst hA;refine(value_any w (sub bs i j) m c (by simp;omega) h4 (((rd_sub h i j).app L') w hs.hold)).mono (fun e w' k=>⟨k.1,by rw[k.2];exact hs⟩))
theorem wrap16(bs:List (BitVec 8))(i j:Nat)(h:j-i<=2):IntKind.u16.wrap (n32 (w32 (sub bs i j)))=n16 (w16 (sub bs i j)):=by
 have h1:=bigL_lt (sub bs i j)
 have h2:(sub bs i j).length<=2:=by simp;omega
 have h3:bigL (sub bs i j)<65536:=by
  have:256 ^ (sub bs i j).length<=256 ^ 2:=Nat.pow_le_pow_right (by omega) h2
  omega
 unfold w32 w16;rw[Bv.wrap_n16_of]
 congr 1
 unfold n32
 apply BitVec.eq_of_toNat_eq
 rw[BitVec.toNat_ofNat,BitVec.toNat_ofInt,BitVec.toNat_ofNat];omega
theorem readData_st(hs:St w0 X (.blk gp 65 P::L) w)(hP:P.length=14)(bs:List (BitVec 8)){g off n c:Nat}(hn:n=bs.length)(h16:n=16)(hc:n<=c)(hS:Reads L (some ⟨g,off,none⟩) (bs.map v8)) :
  Calls Tryz.prog 202 #[.slice (some ⟨g,off,none⟩) n c,.pointer (some ⟨gp,0,none⟩)] w fun e w'=>e=.returned (.slice (some ⟨g,off+12,none⟩) 4 (c-12))/\St w0 X (.blk gp 65 ((((P.set 4 (.int .u16 (n16 (w16 (bs.take 2))))).set 5 (.int .u16 (n16 (w16 (sub bs 2 4))))).set 6 (.int .u32 (n32 (w32 (sub bs 4 8))))).set 7 (.int .u32 (n32 (w32 (sub bs 8 12)))))::L) w':=by
 have HPL:=Lib.hid hP
 subst h16
 have C0:=value_at (w0:=w0) (X:=X) (c:=c) hS 0 2 2 rfl (by omega) (by omega) (A:=⟨g,off,none⟩) rfl
 have C2:=value_at (w0:=w0) (X:=X) (c:=c-2) hS 2 4 2 rfl (by omega) (by omega) (A:=⟨g,off+2,none⟩) rfl
 have C4:=value_at (w0:=w0) (X:=X) (c:=c-4) hS 4 8 4 rfl (by omega) (by omega) (A:=⟨g,off+4,none⟩) rfl
 have C8:=value_at (w0:=w0) (X:=X) (c:=c-8) hS 8 12 4 rfl (by omega) (by omega) (A:=⟨g,off+8,none⟩) rfl
 have e0:IntKind.u16.wrap (n32 (w32 (bs.take 2)))=n16 (w16 (bs.take 2)):=by simpa [sub] using wrap16 bs 0 2 (by omega)
 have e2:=wrap16 bs 2 4 (by omega)
 have a2:(2:Int)<=(c:Int):=by omega
 have b2:2<=c:=by omega
 have d2:¬ c=2:=by omega
 have a4:(4:Int)<=(c:Int):=by omega
 have b4:4<=c:=by omega
 have d4:¬ c=4:=by omega
 have a8:(8:Int)<=(c:Int):=by omega
 have b8:8<=c:=by omega
 have d8:¬ c=8:=by omega
 have a12:(12:Int)<=(c:Int):=by omega
 have b12:12<=c:=by omega
 have d12:¬ c=12:=by omega
 clear hP hn hS hc
 go_enter Tryz.func202,Tryz.ntmps202
 go_upto_region 1 with (fail)
 refine Ch.region' 30 (fun _=>True) (fun|6=>true|10=>true|14=>true|17=>true|20=>true|23=>true|26=>true|29=>true|_=>false) (by kernel_rfl) (by decide +kernel) (trivial) ?_;replace hs:=hs.drew;generalize w.drew=w at hs ⊢;change Ch.CW _ _ _ _ _ [0,1,2,3,4,5,6,7,8,9,10,11,12,13,14,15,16,17,18,19,20,21,22,23,24,25,26,27,28,29] _ _
 iterate 6 (refine Ch.pA ?_;(try simp only[pU]))
 refine Ch.cA (f:=221) (args:=#[.slice (some ⟨g,off,none⟩) 2 c]) (C0.out [_] _ hs) ?_;clear hs;rintro e w⟨rfl,hs⟩;refine⟨_,rfl,trivial,?_⟩;(try simp only[pU])
 iterate 3 (refine Ch.pA ?_;(try simp only[pU]))
 refine Ch.cA (f:=221) (args:=#[.slice (some ⟨g,off+2,none⟩) 2 (c-2)]) (C2.out [_] _ hs) ?_;clear hs;rintro e w⟨rfl,hs⟩;refine⟨_,rfl,trivial,?_⟩;(try simp only[pU])
 iterate 3 (refine Ch.pA ?_;(try simp only[pU]))
 refine Ch.cA (f:=221) (args:=#[.slice (some ⟨g,off+4,none⟩) 4 (c-4)]) (C4.out [_] _ hs) ?_;clear hs;rintro e w⟨rfl,hs⟩;refine⟨_,rfl,trivial,?_⟩;(try simp only[pU])
 iterate 2 (refine Ch.pA ?_;(try simp only[pU]))
 refine Ch.cA (f:=221) (args:=#[.slice (some ⟨g,off+8,none⟩) 4 (c-8)]) (C8.out [_] _ hs) ?_;clear hs;rintro e w⟨rfl,hs⟩;refine⟨_,rfl,trivial,?_⟩;(try simp only[pU])
 iterate 2 (refine Ch.pA ?_;(try simp only[pU]))
 refine Ch.nA (h:=Se.so 0 (v:=.int .u16 (n16 (w16 (bs.take 2)))) hs rfl rfl rfl rfl rfl (by kernel_rfl) (by(try simp only[List.length_set]);rw[HPL.out];decide) ?_);clear hs;intro w hs;simp only[pS] at hs;refine⟨trivial,?_⟩;(try simp only[pU])
 iterate 2 (refine Ch.pA ?_;(try simp only[pU]))
 refine Ch.nA (h:=Se.so 0 (v:=.int .u16 (n16 (w16 (sub bs 2 4)))) hs rfl rfl rfl rfl rfl (by kernel_rfl) (by(try simp only[List.length_set]);rw[HPL.out];decide) ?_);clear hs;intro w hs;simp only[pS] at hs;refine⟨trivial,?_⟩;(try simp only[pU])
 iterate 2 (refine Ch.pA ?_;(try simp only[pU]))
 refine Ch.nA (h:=Se.so 0 (v:=.int .u32 (n32 (w32 (sub bs 4 8)))) hs rfl rfl rfl rfl rfl (by kernel_rfl) (by(try simp only[List.length_set]);rw[HPL.out];decide) ?_);clear hs;intro w hs;simp only[pS] at hs;refine⟨trivial,?_⟩;(try simp only[pU])
 iterate 2 (refine Ch.pA ?_;(try simp only[pU]))
 refine Ch.nA (h:=Se.so 0 (v:=.int .u32 (n32 (w32 (sub bs 8 12)))) hs rfl rfl rfl rfl rfl (by kernel_rfl) (by(try simp only[List.length_set]);rw[HPL.out];decide) ?_);clear hs;intro w hs;simp only[pS] at hs;refine⟨trivial,?_⟩;(try simp only[pU]);refine Ch.done ?_
 try simp only[List.drop_succ_cons,List.drop_zero]
 go_wp2_with fail
 go_ret;exact⟨rfl,hs⟩
theorem readEnd_st(hs:St w0 X (.blk gp 65 P::L) w)(hP:P.length=14)(bs:List (BitVec 8)){g off n c:Nat}(hn:n=bs.length)(h16:n=16)(hc:n<=c)(hS:Reads L (some ⟨g,off,none⟩) (bs.map v8)) :
  Calls Tryz.prog 198 #[.slice (some ⟨g,off,none⟩) n c,.pointer (some ⟨gp,0,none⟩)] w fun e w'=>e=.returned (.slice (some ⟨g,off+6,none⟩) 10 (c-6))/\St w0 X (.blk gp 65 ((P.set 11 (.int .u16 (n16 (w16 (bs.take 2))))).set 12 (.int .u32 (n32 (w32 (sub bs 2 6)))))::L) w':=by
 have HPL:=Lib.hid hP
 subst h16
 have C0:=value_at (w0:=w0) (X:=X) (c:=c) hS 0 2 2 rfl (by omega) (by omega) (A:=⟨g,off,none⟩) rfl
 have C2:=value_at (w0:=w0) (X:=X) (c:=c-2) hS 2 6 4 rfl (by omega) (by omega) (A:=⟨g,off+2,none⟩) rfl
 have e0:IntKind.u16.wrap (n32 (w32 (bs.take 2)))=n16 (w16 (bs.take 2)):=by simpa [sub] using wrap16 bs 0 2 (by omega)
 have a2:(2:Int)<=(c:Int):=by omega
 have b2:2<=c:=by omega
 have d2:¬ c=2:=by omega
 have a6:(6:Int)<=(c:Int):=by omega
 have b6:6<=c:=by omega
 have d6:¬ c=6:=by omega
 clear hP hn hS hc
 go_enter Tryz.func198,Tryz.ntmps198
 go_upto_region 1 with (fail)
 refine Ch.region' 15 (fun _=>True) (fun|4=>true|8=>true|11=>true|14=>true|_=>false) (by kernel_rfl) (by decide +kernel) (trivial) ?_;replace hs:=hs.drew;generalize w.drew=w at hs ⊢;change Ch.CW _ _ _ _ _ [0,1,2,3,4,5,6,7,8,9,10,11,12,13,14] _ _
 iterate 4 (refine Ch.pA ?_;(try simp only[pU]))
 refine Ch.cA (f:=221) (args:=#[.slice (some ⟨g,off,none⟩) 2 c]) (C0.out [_] _ hs) ?_;clear hs;rintro e w⟨rfl,hs⟩;refine⟨_,rfl,trivial,?_⟩;(try simp only[pU])
 iterate 3 (refine Ch.pA ?_;(try simp only[pU]))
 refine Ch.cA (f:=221) (args:=#[.slice (some ⟨g,off+2,none⟩) 4 (c-2)]) (C2.out [_] _ hs) ?_;clear hs;rintro e w⟨rfl,hs⟩;refine⟨_,rfl,trivial,?_⟩;(try simp only[pU])
 iterate 2 (refine Ch.pA ?_;(try simp only[pU]))
 refine Ch.nA (h:=Se.so 0 (v:=.int .u16 (n16 (w16 (bs.take 2)))) hs rfl rfl rfl rfl rfl (by kernel_rfl) (by(try simp only[List.length_set]);rw[HPL.out];decide) ?_);clear hs;intro w hs;simp only[pS] at hs;refine⟨trivial,?_⟩;(try simp only[pU])
 iterate 2 (refine Ch.pA ?_;(try simp only[pU]))
 refine Ch.nA (h:=Se.so 0 (v:=.int .u32 (n32 (w32 (sub bs 2 6)))) hs rfl rfl rfl rfl rfl (by kernel_rfl) (by(try simp only[List.length_set]);rw[HPL.out];decide) ?_);clear hs;intro w hs;simp only[pS] at hs;refine⟨trivial,?_⟩;(try simp only[pU]);refine Ch.done ?_
 try simp only[List.drop_succ_cons,List.drop_zero]
 go_wp2_with fail
 go_ret;exact⟨rfl,hs⟩
theorem readInit_st(hs:St w0 X (.blk gp 65 P::L) w)(hP:P.length=14)(bs:List (BitVec 8)){g off n c:Nat}(hn:n=bs.length)(h16:n=120)(hc:n<=c)(hS:Reads L (some ⟨g,off,none⟩) (bs.map v8)) :
  Calls Tryz.prog 194 #[.slice (some ⟨g,off,none⟩) n c,.pointer (some ⟨gp,0,none⟩)] w fun e w'=>∃ r A c',e=.returned (.slice A 114 c')/\St w0 X (.own 1 r A 114 c' ((bs.take 2++bs.drop 8).map v8)::.blk gp 65 (((P.set 8 (.int .u8 (n8 (bs.getD 2 0#8)))).set 9 (.int .u8 (n8 (bs.getD 3 0#8)))).set 10 (.int .u32 (n32 (w32 (sub bs 4 8)))))::L) w':=by
 have HPL:=Lib.hid hP
 subst h16
 have C4:=value_at (w0:=w0) (X:=X) (c:=c-4) hS 4 8 4 rfl (by omega) (by omega) (A:=⟨g,off+4,none⟩) rfl
 have a2:(2:Int)<=(c:Int):=by omega
 have b2:2<=c:=by omega
 have d2:¬ c=2:=by omega
 have a4:(4:Int)<=(c:Int):=by omega
 have b4:4<=c:=by omega
 have d4:¬ c=4:=by omega
 have a8:(8:Int)<=(c:Int):=by omega
 have b8:8<=c:=by omega
 have d8:¬ c=8:=by omega
 have V2:=Lib.hid (show(bs.map v8)[2]? = some (.int .u8 (n8 (bs.getD 2 0#8))) from v8_at bs 2 (by omega))
 have V3:=Lib.hid (show(bs.map v8)[3]? = some (.int .u8 (n8 (bs.getD 3 0#8))) from v8_at bs 3 (by omega))
 have PTS:Hid (∀ L':List At,∀ p∈[(⟨some ⟨g,off,none⟩,c,bs.take 2⟩:Pt),⟨some ⟨g,off+8,none⟩,c-8,bs.drop 8⟩],Reads (L'++L) p.A (p.bs.map v8)):=Lib.hid (by
  intro L' p hp;simp only[List.mem_cons,List.not_mem_nil,or_false] at hp
  rcases hp with rfl|rfl
  ·simpa only[List.map_take] using (hS.take 2).app L'
  ·simpa only[List.map_drop] using (hS.at 8).app L')
 have HS:=Lib.hid hS
 have HN:=Lib.hid hn
 clear hP hn hS hc
 go_enter Tryz.func194,Tryz.ntmps194
 go_upto_region 1 with (fail)
 refine Ch.region' 21 (fun wx=>Rd wx (some ⟨g,off,none⟩) (bs.map v8)) (fun|11=>true|14=>true|17=>true|20=>true|_=>false) (by kernel_rfl) (by decide +kernel) (HS.out _ (fun a ha=>hs.drew.hold a (by simp[ha]))) ?_;replace hs:=hs.drew;generalize w.drew=w at hs ⊢;change Ch.CW _ _ _ _ _ [0,1,2,3,4,5,6,7,8,9,10,11,12,13,14,15,16,17,18,19,20] _ _
 iterate 11 ((first|refine Ch.pA ?_|refine Ch.pE (hv:=fun wx hS=>Se.xL (hc:=(Rd_c hS 2 V2.out))) (h:=?_)|refine Ch.pE (hv:=fun wx hS=>Se.xL (hc:=(Rd_c hS 3 V3.out))) (h:=?_));(try simp only[pU]))
 refine Ch.cA (f:=221) (args:=#[.slice (some ⟨g,off+4,none⟩) 4 (c-4)]) (C4.out [_] _ hs) ?_;clear hs;rintro e w⟨rfl,hs⟩;refine⟨_,rfl,HS.out _ (fun a ha=>hs.hold a (by simp[ha])),?_⟩;(try simp only[pU])
 iterate 2 (refine Ch.pA ?_;(try simp only[pU]))
 refine Ch.nA (h:=Se.so 0 (v:=.int .u8 (n8 (bs.getD 2 0#8))) hs rfl rfl rfl rfl rfl (by kernel_rfl) (by(try simp only[List.length_set]);rw[HPL.out];decide) ?_);clear hs;intro w hs;simp only[pS] at hs;refine⟨HS.out _ (fun a ha=>hs.hold a (by simp[ha])),?_⟩;(try simp only[pU])
 iterate 2 (refine Ch.pA ?_;(try simp only[pU]))
 refine Ch.nA (h:=Se.so 0 (v:=.int .u8 (n8 (bs.getD 3 0#8))) hs rfl rfl rfl rfl rfl (by kernel_rfl) (by(try simp only[List.length_set]);rw[HPL.out];decide) ?_);clear hs;intro w hs;simp only[pS] at hs;refine⟨HS.out _ (fun a ha=>hs.hold a (by simp[ha])),?_⟩;(try simp only[pU])
 iterate 2 (refine Ch.pA ?_;(try simp only[pU]))
 refine Ch.nA (h:=Se.so 0 (v:=.int .u32 (n32 (w32 (sub bs 4 8)))) hs rfl rfl rfl rfl rfl (by kernel_rfl) (by(try simp only[List.length_set]);rw[HPL.out];decide) ?_);clear hs;intro w hs;simp only[pS] at hs;refine⟨HS.out _ (fun a ha=>hs.hold a (by simp[ha])),?_⟩;(try simp only[pU]);refine Ch.done ?_
 try simp only[List.drop_succ_cons,List.drop_zero]
 go_upto_region 2 with (fail)
 refine Ch.region' 7 (fun _=>True) (fun|4=>true|5=>true|_=>false) (by kernel_rfl) (by decide +kernel) (trivial) ?_;replace hs:=hs.drew;generalize w.drew=w at hs ⊢;change Ch.CW _ _ _ _ _ [0,1,2,3,4,5,6] _ _
 iterate 4 (refine Ch.pA ?_;(try simp only[pU]))
 refine Ch.nA (h:=Se.bsv hs rfl Tryz.underlying203 bysi rfl [.slice (some ⟨g,off,none⟩) 2 c,.slice (some ⟨g,off+8,none⟩) 112 (c-8)] (by rfl) rfl (by simp) (by simp) (by simp[Value.oneCell']) ?_);clear hs;rintro w g27-hs;refine⟨trivial,?_⟩;(try simp only[pU]);refine Ch.cA (f:=133) (args:=#[.slice (some ⟨g27,0,none⟩) 2 2]) (concat_st' (k:=2) (q:=114) hs [⟨some ⟨g,off,none⟩,c,bs.take 2⟩,⟨some ⟨g,off+8,none⟩,c-8,bs.drop 8⟩] (bs:=bs.take 2++bs.drop 8) rfl (by simp only[List.map_cons,List.map_nil,Pt.v,List.length_take,List.length_drop,<-HN.out];exact Reads.blk 0 rfl) (PTS.out [_,_]) (by simp[flat]) (by simp[<-HN.out]) (by omega) (by omega)) ?_;clear hs;rintro e w⟨r,A,c',rfl,hs⟩;refine⟨_,rfl,trivial,?_⟩;(try simp only[pU])
 iterate 1 (refine Ch.pA ?_;(try simp only[pU]))
 refine Ch.done ?_
 try simp only[List.drop_succ_cons,List.drop_zero]
 go_wp2_with fail
 go_ret;exact⟨r,A,c',rfl,hs.perm (List.Perm.cons _ (List.Perm.refl _)) |>.sub (List.Sublist.cons_cons _ (.cons _ (List.Sublist.refl _)))⟩
theorem readEntry_st(hs:St w0 X (.blk gp 65 P::L) w)(hP:P.length=14)(bs:List (BitVec 8)){A:Option Addr}{n c:Nat}(hn:n=bs.length)(hle:n<=70368744177664)(hS:Reads L A (bs.map v8)) :
  Calls Tryz.prog 200 #[.slice A n c,.pointer (some ⟨gp,0,none⟩)] w fun e w'=>∃ r B c',e=.returned (.slice none 0 0)/\St w0 X (.own 1 r B n c' (bs.map v8)::.blk gp 65 (P.set 3 (.slice B n c'))::L) w':=by
 have HPL:=Lib.hid hP
 have HS:=Lib.hid hS
 have HN:=Lib.hid hn
 clear hP hn hS
 go_enter Tryz.func200,Tryz.ntmps200
 go_wp2_with (first|((with_reducible refine Se.iN ?_);(refine Se.So 1 hs rfl rfl rfl (by rw[HPL.out];decide) ?_;clear hs;intro w hs;try simp only[pS] at hs))|(go_at_call 66;refine Calls.mono (clone_st hs (HS.out.cons _) HN.out hle) ?_;clear hs;rintro e w ⟨r,B,c',rfl,hs⟩))
 go_ret;exact⟨r,B,c',rfl,hs⟩
end Pd
end Go.Proofs.YtjnllcnknjlmmaaGreat
namespace Go.Proofs.YtjnllcnknjlmmaaGreat
open Go Go.RowKit
namespace Pd
open Se (St At Reads)
open Li (v8)
variable {w0 w:World} {X:List Nat} {L:List At}
attribute [local irreducible] Calls
def RGive(k:Nat)(s:List (BitVec 8))(h:Hd)(gp:Nat)(w0:World)(X:List Nat)(L0 L:List At)(e:Ending)(w':World):Prop :=
 ∃ A rc r EA ec,∃ Q:List At,e=.returned (.slice A (rdR k s).length rc)/\Reads (Q++L0) A ((rdR k s).map v8) /\
  St w0 X (.blk gp 65 (pc (rdH k s h) EA (rdE k s).length ec none 0 0)::.own 1 r EA (rdE k s).length ec ((rdE k s).map v8)::(Q++L)) w'
theorem rea_fn{k:Nat}(hk:hdr k≠0):∃ n,reaF k=fnv n/\(n=194\/n=198\/n=200\/n=202) /\
  ∀ {w0 w:World} {X:List Nat} {L0 L:List At} (h:Hd) (s:List (BitVec 8)) {gp g off m c:Nat} (_:St w0 X (.blk gp 65 (pc h none 0 0 none 0 0)::L) w) (_:m=s.length) (_:m=hdr k-8) (_:m<=c) (_:Reads L0 (some ⟨g,off,none⟩) (s.map v8)) (_:∀ a∈L0,a∈L),
   Calls Tryz.prog n #[.slice (some ⟨g,off,none⟩) m c,.pointer (some ⟨gp,0,none⟩)] w (RGive k s h gp w0 X L0 L):=by
 have sw:∀ {a b:At} {M:List At} {w0 w:World} {X:List Nat},St w0 X (a::b::M) w->St w0 X (b::a::M) w:=fun h=>h.perm (List.Perm.swap _ _ _)
 have hc:=hdr_cases hk
 have key:(k=0\/k=1)\/(k=2\/k=3)\/(k=4\/k=5)\/(k=6\/k=7\/k=9):=by omega
 rcases key with h|h|h|h
 ·refine⟨194,by rcases h with rfl|rfl <;> rfl,.inl rfl,?_⟩
  intro w0 w X L0 L hd s gp g off m c hs hm h8 hc hS hsub
  have h120:m=120:=by rw[h8];rcases h with rfl|rfl <;> rfl
  subst h120;refine(readInit_st hs rfl s hm rfl hc (hS.mono hsub)).mono ?_;rintro e w' ⟨r,A,c',h1,h2⟩
  have e1:rdR k s=s.take 2++s.drop 8:=by rcases h with rfl|rfl <;> rfl
  have e2:rdE k s=[]:=by rcases h with rfl|rfl <;> rfl
  have e3:rdH k s hd={ hd with al:=s.getD 2 0#8,dg:=s.getD 3 0#8,mx:=w32 (sub s 4 8) }:=by rcases h with rfl|rfl <;> rfl
  refine⟨A,c',none,none,0,[.own 1 r A 114 c' ((s.take 2++s.drop 8).map v8)],?_,?_,?_⟩
  ·rw[h1,e1];congr 2;simp;omega
  ·rw[e1];exact Reads.own 0 rfl
  ·rw[e2,e3]
   have:=(h2.nil_own 1 none).perm (List.Perm.trans (List.Perm.cons _ (List.Perm.swap _ _ _)) (List.Perm.swap _ _ _))
   exact this
 ·refine⟨198,by rcases h with rfl|rfl <;> rfl,.inr (.inl rfl),?_⟩
  intro w0 w X L0 L hd s gp g off m c hs hm h8 hc hS hsub
  have h16:m=16:=by rw[h8];rcases h with rfl|rfl <;> rfl
  subst h16;refine(readEnd_st hs rfl s hm rfl hc (hS.mono hsub)).mono ?_;rintro e w' ⟨h1,h2⟩
  have e1:rdR k s=s.drop 6:=by rcases h with rfl|rfl <;> rfl
  have e2:rdE k s=[]:=by rcases h with rfl|rfl <;> rfl
  have e3:rdH k s hd={ hd with st:=w16 (s.take 2),nf:=w32 (sub s 2 6) }:=by rcases h with rfl|rfl <;> rfl
  refine⟨some ⟨g,off+6,none⟩,c-6,none,none,0,[],?_,?_,?_⟩
  ·rw[h1,e1];congr 2;simp;omega
  ·rw[e1,List.map_drop];exact hS.at 6
  ·rw[e2,e3];exact sw (h2.nil_own 1 none)
 ·refine⟨200,by rcases h with rfl|rfl <;> rfl,.inr (.inr (.inl rfl)),?_⟩
  intro w0 w X L0 L hd s gp g off m c hs hm h8 hc hS hsub
  have hle:m<=70368744177664:=by rw[h8];rcases h with rfl|rfl <;> decide
  refine(readEntry_st hs rfl s hm hle (hS.mono hsub)).mono ?_;rintro e w' ⟨r,B,c',h1,h2⟩
  have e1:rdR k s=[]:=by rcases h with rfl|rfl <;> rfl
  have e2:rdE k s=s:=by rcases h with rfl|rfl <;> rfl
  have e3:rdH k s hd=hd:=by rcases h with rfl|rfl <;> rfl
  refine⟨none,0,r,B,c',[],?_,?_,?_⟩
  ·rw[h1,e1];rfl
  ·rw[e1];exact Reads.nil
  ·rw[e2,e3,<-hm];exact sw h2
 ·refine⟨202,by rcases h with rfl|rfl|rfl <;> rfl,.inr (.inr (.inr rfl)),?_⟩
  intro w0 w X L0 L hd s gp g off m c hs hm h8 hc hS hsub
  have h16:m=16:=by rw[h8];rcases h with rfl|rfl|rfl <;> rfl
  subst h16;refine(readData_st hs rfl s hm rfl hc (hS.mono hsub)).mono ?_;rintro e w' ⟨h1,h2⟩
  have e1:rdR k s=s.drop 12:=by rcases h with rfl|rfl|rfl <;> rfl
  have e2:rdE k s=[]:=by rcases h with rfl|rfl|rfl <;> rfl
  have e3:rdH k s hd={ hd with id:=w16 (s.take 2),tg:=w16 (sub s 2 4),of:=w32 (sub s 4 8),ln:=w32 (sub s 8 12) }:=by rcases h with rfl|rfl|rfl <;> rfl
  refine⟨some ⟨g,off+12,none⟩,c-12,none,none,0,[],?_,?_,?_⟩
  ·rw[h1,e1];congr 2;simp;omega
  ·rw[e1,List.map_drop];exact hS.at 12
  ·rw[e2,e3];exact sw (h2.nil_own 1 none)
end Pd
end Go.Proofs.YtjnllcnknjlmmaaGreat
namespace Go.Proofs.YtjnllcnknjlmmaaGreat
open Go Go.RowKit
namespace Pd
open Se (St At)
variable {w0 w:World} {X:List Nat} {L:List At}
attribute [local irreducible] Calls
theorem own_le{s:Nat}{r:Option Nat}{A:Option Addr}{n c:Nat}{xs:List Value}(hs:St w0 X L w)(hm:At.own s r A n c xs∈L):n<=c:=by
 have h:Se.Ow w s r A n c xs:=hs.hold _ hm
 exact h.2.1
end Pd
end Go.Proofs.YtjnllcnknjlmmaaGreat
namespace Go.Proofs.YtjnllcnknjlmmaaGreat
namespace Gd
open Go Go.RowKit Hv Ch
theorem mv_true(v:Value):mv true v=v:=rfl
theorem pk_true(x y:Value):pk true x y=x:=rfl
theorem pk_false(x y:Value):pk false x y=y:=rfl
theorem pk_and(b c:Bool):pk b (mv b (.bool c)) (.bool false)=.bool (b&&c):=by cases b <;> rfl
end Gd
end Go.Proofs.YtjnllcnknjlmmaaGreat
namespace Go.Proofs.YtjnllcnknjlmmaaGreat
open Go Go.RowKit
namespace Se
open Li (Fr)
def WF(r:Option Nat):Fence:={ Fence.wide with round:=r }
theorem WF_inRound(r:Option Nat)(l:Nat):(WF r).inRound l=WF (some l):=rfl
section
variable {P:Program} {ops:Array Oper} {Q:Exit->Act->World->Prop} {a:Act} {w:World} {o:Oper} {r:Option Nat}
theorem callsIn_WF{f:FuncId}{args:Array Value}{R:Ending->World->Prop}{n:Nat}(h:Calls P f args w R):CallsIn (WF r) n P f args w R :=
 (callsIn_wide (n:=n)).2 h
theorem calls_WF{f:FuncId}{args:Array Value}{R:Ending->World->Prop}{n:Nat}(h:CallsIn (WF none) n P f args w R):Calls P f args w R :=
 (callsIn_wide (n:=n)).1 h
theorem wp_WF{c:Code}{n:Nat}:c.wpIn (WF none) n P Q a w↔c.wp P Q a w:=wpIn_wide
theorem uponIn_of_upon{next:Act->World->Prop}{res:Result Next}(h:o.upon P a next Q res):o.uponIn (WF r) 0 P a next Q res:=by
 cases res with
 | ok n w' =>
  cases n
  case value v=>exact h
  case skip=>exact h
  case defer d=>exact h
  case enter f args=>exact⟨fun h=>by simp[WF,Fence.wide] at h,callsIn_WF h⟩
  case row row args =>
   refine⟨fun h=>by simp[WF,Fence.wide] at h,fun c cs _=>?_⟩
   obtain⟨v,w'',hR,hs⟩:=h c cs
   exact⟨v,w'',hR,stepsIn_wide.2 hs⟩
  all_goals exact h.elim
 | halt x w' =>
  cases x <;> first|exact h|exact h.elim
theorem opIn{K:Act->World->Prop}(hd:∀ c,o.op≠.defer c)(h:o.wp P a w K Q):o.wpIn (WF r) 0 P a w K Q :=
 ⟨fun _ _=>trivial,by rw[Oper.semAt_eq _ _ _ hd];exact uponIn_of_upon h⟩
def noDef(l:List Oper):Bool:=l.all fun o=>match o.op with | .defer _=>false|_=>true
theorem noDef_of{l:List Oper}(h:noDef l=true){o:Oper}(ho:o∈l):∀ c,o.op≠.defer c:=by
 intro c e
 have:=List.all_eq_true.1 h o ho
 simp[e] at this
theorem listIn(hL:LetsOut Q->False):∀ (l:List Oper) (a:Act) (w:World),(∀ o∈l,∀ c,o.op≠.defer c)->wpList P ops Q l a w->wpListIn (WF r) 0 P ops Q l a w
 | [],_,_,_,h=>h
 | o::l,a,w,hd,h=>by
  unfold wpList at h;unfold wpListIn
  have ih:=listIn hL l
  split at h
  ·rename_i hw
   rw[if_pos hw]
   rcases h with h|⟨_,h⟩
   ·exact Oper.wpIn_mono (fun a w hk=>ih a w (fun x hx=>hd x (List.mem_cons_of_mem _ hx)) hk) (opIn (hd o List.mem_cons_self) h)
   ·exact(hL h).elim
  ·rename_i hw
   rw[if_neg hw];exact⟨fun _ _=>trivial,ih _ _ (fun x hx=>hd x (List.mem_cons_of_mem _ hx)) h⟩
theorem regI{id:Nat}{l:List Oper}(hL:LetsOut Q->False)(hd:noDef l=true)(h:wpList P l.toArray Q l a w):(Code.region id l.toArray false).wpIn (WF r) 0 P Q a w :=
 wpIn_region_lit (listIn hL l a w (fun _ ho=>noDef_of hd ho) h)
theorem toLI{rest:List Oper}(hd:∀ c,o.op≠.defer c)(hw:Region.wanted o (yielded ops a.tmps)=true)(h:Hv.Gives P o a w (fun v w'=>wpListIn (WF r) 0 P ops Q rest (a.put o.dst v) w')):wpListIn (WF r) 0 P ops Q (o::rest) a w:=by
 unfold wpListIn;rw[if_pos hw];exact opIn hd (h.wp fun _ _ h=>h)
theorem qLI{rest:List Oper}{v:Value}(hd:∀ c,o.op≠.defer c)(hw:Region.wanted o (yielded ops a.tmps)=true)(hv:(execOp a.eval o).run P w=.ok (.value v) w)(h:wpListIn (WF r) 0 P ops Q rest (a.put o.dst v) w):wpListIn (WF r) 0 P ops Q (o::rest) a w :=
 toLI hd hw (by unfold Hv.Gives;rw[hv];exact h)
theorem ylI{rest:List Oper}{l:Nat}{args:Array Value}(hd:∀ c,o.op≠.defer c)(hw:Region.wanted o (yielded ops a.tmps)=true)(hx:(execOp a.eval o).run P w=(Instr.yield l args).run P w)
  (h:YieldAt (WF none) 0 P l args w fun e w'=>∃ v,e=.returned v/\wpListIn (WF none) 0 P ops Q rest (a.put o.dst v) w'):wpListIn (WF none) 0 P ops Q (o::rest) a w:=by
 unfold wpListIn;rw[if_pos hw];refine⟨fun _ _=>trivial,?_⟩;rw[Oper.semAt_eq _ _ _ hd,hx]
 obtain⟨fn,tmps,assign,body,hy,hR⟩:=h
 rw[hy];exact⟨fun h=>by simp[WF,Fence.wide] at h,hR.mono fun e w' ⟨v,he,hk⟩=>by subst he;exact hk⟩
end
theorem yieldMono{P:Program}{F:Fence}{m l:Nat}{args args':Array Value}{W:World}{R R':Ending->World->Prop}(h:YieldAt F m P l args W R)(ha:args=args')(hr:∀ e w',R e w'->R' e w'):YieldAt F m P l args' W R':=by
 subst ha
 obtain⟨fn,tmps,assign,body,hy,hR⟩:=h
 exact⟨fn,tmps,assign,body,hy,hR.mono hr⟩
def lpc(l:Nat)(r:Loop):At:=.abs [l] (fun w=>w.heap[l]? = some (.loop r))
 (fun w h b hb=>by
  simp only[List.mem_singleton] at hb;subst hb;exact(Array.getElem?_eq_some_iff.1 h).1)
 (fun w w' h hb=>by rw[hb l (by simp)];exact h)
def dpc(D:Nat):At:=.abs [D] (fun w=>w.heap[D]? = some (.deferred (some [])))
 (fun w h b hb=>by
  simp only[List.mem_singleton] at hb;subst hb;exact(Array.getElem?_eq_some_iff.1 h).1)
 (fun w w' h hb=>by rw[hb D (by simp)];exact h)
section
variable {P:Program} {w0 w:World} {X:List Nat} {L:List At}
theorem fr_putObj(w:World)(g:Nat)(o:Obj):Fr (· = g) w (w.putObj g o) :=
 ⟨rfl,rfl,rfl,by simp,fun _ _ hX=>World.putObj_heap_other hX⟩
theorem St.putLoop{l:Nat}{r:Loop}(hs:St w0 X (lpc l r::L) w)(r':Loop):St w0 X (lpc l r'::L) (w.putObj l (.loop r')):=by
 have hl:w.heap[l]? = some (.loop r):=hs.hold (lpc l r) List.mem_cons_self
 refine St.turn (P:=[lpc l r]) (P':=[lpc l r']) hs ((fr_putObj w l _).mono fun b _ hb=>by simp[ownedL,At.owned,lpc];exact hb) ?_ (by simp[At.noRd,lpc]) (by simp[ownedL,At.owned,lpc]) (by simp[ownedL,At.owned,lpc]);simp only[List.mem_singleton,forall_eq];exact World.putObj_heap_same (Array.getElem?_eq_some_iff.1 hl).1
theorem St.loopAt{l:Nat}{r:Loop}(hs:St w0 X (lpc l r::L) w):w.heap[l]? = some (.loop r):=hs.hold (lpc l r) List.mem_cons_self
theorem St.newObj(hs:St w0 X L w)(o:Obj){bs:List Nat}{φ:World->Prop}{h1:∀ w,φ w->∀ b∈bs,b<w.heap.size}{h2:∀ w w':World,φ w->(∀ b∈bs,w'.heap[b]? = w.heap[b]?)->φ w'}(hb:bs=[w.heap.size])(hφ:φ (w.alloc o)):St w0 X (.abs bs φ h1 h2::L) (w.alloc o):=by
 subst hb;exact St.turn (P:=[]) (P':=[.abs _ φ h1 h2]) hs (Fr.ext (Hv.Ext.alloc _ _)) (by simp only[List.mem_singleton,forall_eq];exact hφ) (by simp[At.noRd]) (by simp[ownedL,At.owned]) (by simp[ownedL,At.owned])
end
def SeqOne(P:Program)(gf:Nat)(lb:Array Value)(w0:World)(X:List Nat)(M0 Me:List At)(Y0:Prop)(Y:Array Value->List At->Prop):Prop :=
 ∀ (l:Nat) (Jx:Array Value->List At->List At->Prop) (T:List At) (W:World),St w0 X (M0++T) W ->
  (∀ x M1 W1,Y x M1->St w0 X (M1++T) W1->YieldAt (WF none) 0 P l x W1 fun e W'=>e=.returned (.bool false)/\∃ T',Jx x M1 T'/\St w0 X (M1++T') W') ->
   Calls P gf (#[.func (.yield l) #[] #[]]++lb) W fun e W'=>(∃ v,e=.returned v)/\((Y0/\St w0 X (Me++T) W')\/∃ x M1 T',Y x M1/\Jx x M1 T'/\St w0 X (M1++T') W')
def roundSt(w0:World)(X:List Nat)(T:List At)(J:List At->Prop)(Jx:Code->List At->Prop):Exit->Act->World->Prop
 | .normal,_,W=>∃ L,J L/\St w0 X (L++T) W
 | .ret,_,W=>∃ L,Jx .ret L/\St w0 X (L++T) W
 | .exit id,_,W=>∃ L,Jx (.exit id) L/\St w0 X (L++T) W
 | .goto t,_,W=>∃ L,Jx (.goto t) L/\St w0 X (L++T) W
 | _,_,_=>False
theorem roundSt_out{w0:World}{X:List Nat}{T:List At}{J:List At->Prop}{Jx:Code->List At->Prop}:LetsOut (roundSt w0 X T J Jx)->False:=fun⟨_,_,h⟩=>h
theorem then_out{K:Act->World->Prop}{Q:Exit->Act->World->Prop}(h:LetsOut Q->False):LetsOut (Exit.then K Q)->False:=fun⟨a,w,hq⟩=>h ⟨a,w,hq⟩
theorem block_out{i:Nat}{Q:Exit->Act->World->Prop}(h:LetsOut Q->False):LetsOut (Exit.inBlock i Q)->False:=fun⟨a,w,hq⟩=>h ⟨a,w,hq⟩
theorem falsePost_out:LetsOut (fun(_:Exit) (_:Act) (_:World)=>False)->False:=fun⟨_,_,h⟩=>h
theorem rangeOne{P:Program}{g:Operand}{ps:Array Tmp}{assign body:Code}{Q:Exit->Act->World->Prop}{a:Act}{w w0:World}{X:List Nat}{L Lr:List At}
  {gf:Nat} {lb:Array Value} {M0 Me:List At} {Y0:Prop} {Y:Array Value->List At->Prop} (hs:St w0 X (L++(M0++Lr)) w) (hg:a.eval g=.func (.func gf) #[] lb) (eg:∀ args w,(callFunc gf args).run P w=.ok (.enter gf args) w)
  (hseq:SeqOne P gf lb w0 X M0 Me Y0 Y) (hps:∀ x M1,Y x M1->x.size=ps.size) (Jx:Code->Array Value->List At->List At->Prop)
  (hround:∀ l x M1 W T,Y x M1->St w0 X (L++T) W ->
   assign.wpIn (WF (some l)) 0 P (Exit.then (fun a₁ W₁=>∃ L₁,St w0 X (L₁++T) W₁/\∀ W' T',St w0 X (L₁++T') W'->body.wpIn (WF (some l)) 0 P (roundSt w0 X T' (fun _=>False) (fun c=>Jx c x M1)) a₁ W') (fun _ _ _=>False)) { tmps:=(ps.zip x).foldl (fun t (p,v)=>t.setIfInBounds p v) a.tmps,defers:=[] } W)
  (hdone:∀ D W,Y0->St w0 X (L++(Me++(dpc D::Lr))) W->Q .normal { a with defers:={ target:=.collected D,args:=#[] }::a.defers } W)
  (hstop:∀ D c x M1 L' W,Y x M1->Jx c x M1 L'->St w0 X (L'++(M1++(dpc D::Lr))) W->c.wp P Q { a with defers:={ target:=.collected D,args:=#[] }::a.defers } W) :
  (Code.rangeFunc g ps assign body).wp P Q a w:=by
 refine(wp_WF (n:=0)).1 (wpIn_rangeFunc ?_);intro fn hfn
 obtain⟨rec,hrec⟩:∃ rec:LoopState->Option Code->Loop,rec=fun st pe=>{ state:=st,pending:=pe,fn,tmps:=a.tmps,params:=ps,assign,body,defers:=w.heap.size }:=⟨_,rfl⟩
 obtain⟨l,hl⟩:∃ l,l=w.heap.size+1:=⟨_,rfl⟩
 obtain⟨D,hD⟩:∃ D,D=w.heap.size:=⟨_,rfl⟩
 have hsD:St w0 X (dpc D::(L++(M0++Lr))) (w.alloc (.deferred (some []))):=by
  refine hs.newObj _ (by rw[hD]) ?_;rw[hD];exact World.alloc_heap_new w _
 have hsl:St w0 X (lpc l (rec .ready none)::dpc D::(L++(M0++Lr))) ((w.alloc (.deferred (some []))).alloc (.loop (rec .ready none))):=by
  refine hsD.newObj _ (by rw[World.size_alloc,hl]) ?_
  have:=World.alloc_heap_new (w.alloc (.deferred (some []))) (.loop (rec .ready none))
  rwa [World.size_alloc,<-hl] at this
 refine⟨l,[{ target:=.collected D,args:=#[] }],(w.alloc (.deferred (some []))).alloc (.loop (rec .ready none)),{ target:=.fn (.func gf) lb,args:=#[.func (.yield l) #[] #[]] },(w.alloc (.deferred (some []))).alloc (.loop (rec .ready none)),gf,
  #[.func (.yield l) #[] #[]]++lb,(w.alloc (.deferred (some []))).alloc (.loop (rec .ready none)),?_,?_,?_,?_,fun h=>by simp[WF,Fence.wide] at h,?_⟩
 ·rw[hl,hD,hrec];exact run_enterLoop_outer _ _ _ _ _
 ·simp only[resolve,hg]
  simp[go_sem]
 ·intro f' _;trivial
 ·simp[invoke,go_sem,eg]
 ·refine callsIn_WF ?_
  have perm1:∀ (r:Loop) (L' m:List At),(m++(L'++(lpc l r::dpc D::Lr))).Perm (L'++(lpc l r::(dpc D::Lr++m))):=fun r L' m=>by
   refine(List.perm_append_comm).trans ?_;rw[List.append_assoc];rfl
  have perm2:∀ (r:Loop) (L' T:List At),(L'++(lpc l r::T)).Perm (lpc l r::(L'++T)):=fun _ _ _=>List.perm_middle
  refine(hseq l (fun x M1 T=>∃ c L',Jx c x M1 L'/\T=L'++(lpc l (rec .done (some c))::dpc D::Lr)) (L++(lpc l (rec .ready none)::dpc D::Lr)) _ (hsl.perm ?_) ?_).mono ?_
  rotate_left
  ·rintro x M1 W hY hW
   have hW1:=hW.perm (perm1 _ _ _)
   have hlo:=(hW1.perm (perm2 _ _ _)).loopAt
   have hy:=run_yield (P:=P) (args:=x) hlo (by rw[hrec];exact hps x M1 hY)
   rw[hrec] at hy;refine⟨fn,_,assign,body,hy,roundIn_of_wpIn trivial ?_⟩;rw[WF_inRound];refine wpIn_mono (hround l x M1 W _ hY hW1) ?_;intro e a₁ W₁ hq
   cases e with
   | normal =>
    obtain⟨L₁,hS1,hbd⟩:=hq
    have hS2:=hS1.perm (perm2 _ _ _)
    have hlo1:=hS2.loopAt
    refine⟨_,run_beginRound hlo1 (by rw[hrec]),?_⟩
    have hS3:=(hS2.putLoop { rec .ready none with state:=.busy }).perm (perm2 _ _ _).symm
    refine wpIn_mono (hbd _ _ hS3) ?_
    have fin:∀ (jump:Option Code) (L2:List At) (W3:World),St w0 X (L2++(lpc l { rec .ready none with state:=.busy }::(dpc D::Lr++M1))) W3 ->
      (Instr.endRound l jump).run P W3=.ok (.bool jump.isNone) (W3.putObj l (.loop (rec (if jump.isNone then .ready else .done) jump))) /\
      St w0 X (M1++(L2++(lpc l (rec (if jump.isNone then .ready else .done) jump)::dpc D::Lr))) (W3.putObj l (.loop (rec (if jump.isNone then .ready else .done) jump))):=fun jump L2 W3 h3=>by
     have h4:=h3.perm (perm2 _ _ _)
     have h5:=run_endRound (P:=P) jump h4.loopAt
     rw[hrec] at h5 ⊢;refine⟨h5,?_⟩
     have h6:=(h4.putLoop (rec (if jump.isNone then .ready else .done) jump)).perm (perm2 _ _ _).symm
     have h7:=h6.perm (perm1 _ _ _).symm
     rw[hrec] at h7;exact h7
    intro e a3 W3 hp
    cases e with
    | normal =>
     obtain⟨L2,hJ2,h3⟩:=hp
     exact hJ2.elim
    | ret =>
     obtain⟨L2,hJ2,h3⟩:=hp
     obtain⟨h4,h5⟩:=fin (some .ret) L2 W3 h3
     exact⟨_,_,h4,rfl,_,⟨.ret,L2,hJ2,rfl⟩,h5⟩
    | exit id =>
     obtain⟨L2,hJ2,h3⟩:=hp
     obtain⟨h4,h5⟩:=fin (some (.exit id)) L2 W3 h3
     exact⟨_,_,h4,rfl,_,⟨.exit id,L2,hJ2,rfl⟩,h5⟩
    | goto t =>
     obtain⟨L2,hJ2,h3⟩:=hp
     obtain⟨h4,h5⟩:=fin (some (.goto t)) L2 W3 h3
     exact⟨_,_,h4,rfl,_,⟨.goto t,L2,hJ2,rfl⟩,h5⟩
    | panic ch=>exact hp.elim
    | outgrown=>exact hp.elim
   | ret=>exact hq.elim
   | exit id=>exact hq.elim
   | goto t=>exact hq.elim
   | panic ch=>exact hq.elim
   | outgrown=>exact hq.elim
  ·rintro e W2 ⟨⟨v,rfl⟩,(⟨hY0,hW⟩|⟨x,M1,T,hY,⟨c,L',hJ,rfl⟩,hW⟩)⟩
   ·have h1:=(hW.perm (perm1 _ _ _)).perm (perm2 _ _ _)
    refine⟨none,_,by have:=run_endLoop (P:=P) h1.loopAt (by rw[hrec];simp);rw[hrec] at this;exact this,?_⟩
    have h2:=(h1.putLoop { rec .ready none with state:=.exhausted }).drop
    rw[hrec] at h2;refine hdone D _ hY0 (h2.perm ?_);exact List.Perm.append_left _ (by
     rw[List.cons_append];exact(List.perm_append_comm (l₁:=dpc D::Lr) (l₂:=Me)))
   ·have h1:=(hW.perm (perm1 _ _ _)).perm (perm2 _ _ _)
    refine⟨some c,_,by have:=run_endLoop (P:=P) h1.loopAt (by rw[hrec];simp);rw[hrec] at this;exact this,?_⟩
    have h2:=(h1.putLoop { rec .done (some c) with state:=.exhausted }).drop
    rw[hrec] at h2;refine wp_WF.2 (hstop D c x M1 L' _ hY hJ (h2.perm ?_));exact List.Perm.append_left _ (by
     rw[List.cons_append];exact(List.perm_append_comm (l₁:=dpc D::Lr) (l₂:=M1)))
  ·refine(List.perm_append_comm (l₁:=[lpc l (rec .ready none),dpc D]) (l₂:=L++(M0++Lr))).trans ?_
   rw[List.append_assoc,List.append_assoc]
   have e:(L++(M0++(Lr++[lpc l (rec .ready none),dpc D]))).Perm (M0++(L++(Lr++[lpc l (rec .ready none),dpc D]))):=by
    rw[<-List.append_assoc,<-List.append_assoc M0];exact List.Perm.append_right _ List.perm_append_comm
   exact e.trans (List.Perm.append_left _ (List.Perm.append_left _ (List.perm_append_comm (l₁:=Lr) (l₂:=[lpc l (rec .ready none),dpc D]))))
theorem St.mid{w0 w:World}{X:List Nat}{Lb M L:List At}{d:At}(h:St w0 X (Lb++(M++d::L)) w):St w0 X (d::(Lb++(M++L))) w:=h.perm (by
 rw[<-List.append_assoc,<-List.append_assoc];exact List.perm_middle)
theorem zip2(T:Array Value)(p q:Tmp)(u v:Value):((#[p,q]:Array Tmp).zip #[u,v]).foldl (fun t (p,v)=>t.setIfInBounds p v) T=(T.setIfInBounds p u).setIfInBounds q v:=by simp
section
variable {P:Program} {w0 w:World} {X:List Nat} {L:List At}
theorem enterM{f:FuncId}{fn:Func}{c:Code}{args:Array Value}{R:Ending->World->Prop}(hf:P.funcs[f]? = some fn)(hb:fn.body=some c)
  (h:c.wp P (bodyPostM (WF none) 0 P fn R) { tmps:=args++Array.replicate (fn.ntmps-args.size) undef,defers:=[] } w):Calls P f args w R :=
 calls_WF (n:=0) (callsIn_of_wp_marks (F:=WF none) hf hb trivial (wp_WF.2 h))
theorem leave0{fn:Func}{tmps:Array Value}{R:Ending->World->Prop}{v:Value}(hr:(results fn tmps).run P w=.ok v w)(hR:R (.returned v) w):LeavesInM (WF none) 0 P fn tmps R [] .returning w:=⟨v,hr,hR⟩
theorem leave1{fn:Func}{tmps:Array Value}{R:Ending->World->Prop}{D:Nat}{ds:List Deferred}(hs:St w0 X (dpc D::L) w)(h:∀ w',St w0 X L w'->LeavesInM (WF none) 0 P fn tmps R ds .returning w') :
  LeavesInM (WF none) 0 P fn tmps R ({ target:=.collected D,args:=#[] }::ds) .returning w:=by
 have hD:w.heap[D]? = some (.deferred (some [])):=hs.hold (dpc D) List.mem_cons_self
 refine⟨by simp,.inl ⟨D,_,rfl,run_takeDeferred hD,h _ ?_⟩⟩;exact St.turn (P:=[dpc D]) (P':=[]) hs ((fr_putObj w D _).mono fun b _ hb=>by simp[ownedL,At.owned,dpc];exact hb) (by simp) (by simp) (by simp[ownedL]) (by simp[ownedL])
end
end Se
end Go.Proofs.YtjnllcnknjlmmaaGreat
namespace Go.Proofs.YtjnllcnknjlmmaaGreat
namespace Sr
open Pd (Fm PDU meas dec framed)
structure Rc where
 f:Fm
 mo:Nat
 b:List (BitVec 8):=[]
 e:Nat:=0
 nb:Nat:=0
 np:Nat:=0
def fits(f:Fm)(mo:Int):Bool:=framed f&&decide (128<=mo/\mo<=4194304)
def addE(s:Rc)(x:List (BitVec 8)):Rc × Nat:=if s.e≠0 then (s,s.e) else if 4194304<s.b.length+x.length then (s,7) else ({ s with b:=s.b++x },0)
def takeE(s:Rc):PDU × Nat × Nat :=
 if s.b.length<8 then ({},0,9) else
 if (meas s.b s.f).2≠0 then ({},0,(meas s.b s.f).2) else
 if s.mo<(meas s.b s.f).1 then ({},0,5) else
 if s.b.length<(meas s.b s.f).1 then ({},0,9) else
 ((dec (s.b.take (meas s.b s.f).1) s.f).1,(meas s.b s.f).1,(dec (s.b.take (meas s.b s.f).1) s.f).2)
def nextE(s:Rc):Rc × PDU × Nat :=
 if s.e≠0 then (s,{},s.e) else
 if (takeE s).2.2=9 then (s,{},9) else
 if (takeE s).2.2≠0 then ({ s with e:=(takeE s).2.2,b:=[] },{},(takeE s).2.2) else
 ({ s with b:=s.b.drop (takeE s).2.1,nb:=s.nb+(takeE s).2.1,np:=s.np+1 },(takeE s).1,0)
def refE(s:Rc)(f:Fm):Rc × Nat:=if s.e≠0 then (s,s.e) else if framed f=true then ({ s with f:=f },0) else (s,2)
theorem take_len{s:Rc}{p:PDU}{n e:Nat}(h:takeE s=(p,n,e)):n<=s.b.length:=by
 unfold takeE at h
 repeat' split at h
 all_goals (cases h;first|omega|exact Nat.zero_le _)
end Sr
end Go.Proofs.YtjnllcnknjlmmaaGreat
namespace Go.Proofs.YtjnllcnknjlmmaaGreat
open Go Go.RowKit
namespace Sr
open Pd (iv)
open Se (At)
open Li (v8)
variable {w0 w:World} {X:List Nat} {L:List At} {s s':Rc} {g c:Nat} {B:Option Addr} {r:Option Nat}
attribute [local irreducible] Calls
def rcl(s:Rc)(B:Option Addr)(c:Nat):List Value:=[.bool s.f.hd,.bool s.f.dd,.int .i64 s.f.al,iv s.mo,.slice B s.b.length c,iv s.e,iv s.nb,iv s.np]
abbrev pR(g:Nat)(s:Rc)(B:Option Addr)(c:Nat):At:=.blk g 185 (rcl s B c)
abbrev pO(r:Option Nat)(B:Option Addr)(c:Nat)(s:Rc):At:=.own 1 r B s.b.length c (s.b.map v8)
theorem int_ne{e:Nat}(h:e≠0):((e:Int) != 0)=true/\((e:Int)==0)=false:=by simp;omega
end Sr
end Go.Proofs.YtjnllcnknjlmmaaGreat
