/- Layer 41. -/
import Derived.Test.YtjnllcnknjlmmaaGreatKa11
set_option linter.unusedSimpArgs false
set_option linter.unusedVariables false
set_option maxRecDepth 100000
set_option maxHeartbeats 4000000
namespace Go.Proofs.YtjnllcnknjlmmaaGreat
open Go Go.RowKit
namespace Sn
open Pd (iv Rd_cell)
open Se (St At Reads Cell)
open Li (v8)
open Bv (n8)
variable {w0 w:World} {X:List Nat} {L:List At}
attribute [local irreducible] Calls
theorem num_snoc(l:Bs)(x:BitVec 8):num (l++[x])=num l+x.toNat*256 ^ l.length:=by
 induction l with
 | nil=>simp[num]
 | cons a l ih =>
  have h:num (a::l++[x])=a.toNat+256*num (l++[x]):=rfl
  have h2:num (a::l)=a.toNat+256*num l:=rfl
  rw[h,h2,ih,List.length_cons,Nat.pow_succ,Nat.mul_add,<-Nat.add_assoc]
  congr 1
  rw[Nat.mul_comm (256 ^ l.length) 256,Nat.mul_left_comm]
theorem num_lt(l:Bs):num l<256 ^ l.length:=by
 induction l with
 | nil=>simp[num]
 | cons a l ih =>
  have h2:num (a::l)=a.toNat+256*num l:=rfl
  rw[h2,List.length_cons,Nat.pow_succ]
  have:=a.isLt
  omega
theorem wid(n:Nat)(h:n<9223372036854775808):wrap64 (n:Int)=(n:Int):=by unfold wrap64;omega
theorem or_nat(a b:Nat)(ha:a<4294967296)(hb:b<4294967296):bits .or .i64 (a:Int) (b:Int)=((a|||b:Nat):Int):=by
 have h1:(BitVec.ofInt 64 (a:Int)|||BitVec.ofInt 64 (b:Int)).toNat=a|||b:=by
  rw[BitVec.ofInt_natCast,BitVec.ofInt_natCast,BitVec.toNat_or,BitVec.toNat_ofNat,BitVec.toNat_ofNat,Nat.mod_eq_of_lt (by omega),Nat.mod_eq_of_lt (by omega)]
 have h2:a|||b<2 ^ 32:=Nat.or_lt_two_pow (by omega) (by omega)
 have h3:bits .or .i64 (a:Int) (b:Int)=IntKind.i64.wrap ((BitVec.ofInt 64 (a:Int)|||BitVec.ofInt 64 (b:Int)).toNat:Int):=rfl
 rw[h3,h1];clear h1 h3;generalize a|||b=m at *
 simp[IntKind.wrap,IntKind.bits,IntKind.signed];omega
theorem or_sh(v:Nat)(x:BitVec 8)(j:Nat)(hv:v<256 ^ j)(hj:j<=3):bits .or .i64 (v:Int) (wrap64 (wrap64 (n8 x)*2 ^ (8*j)))=((v+x.toNat*256 ^ j:Nat):Int):=by
 have hx:=x.isLt
 have p1:256 ^ j=2 ^ (8*j):=by rw[Nat.pow_mul]
 have p2:2 ^ (8*j)<=2 ^ 24:=Nat.pow_le_pow_right (by omega) (by omega)
 have e1:wrap64 (n8 x)=((x.toNat:Nat):Int):=by unfold n8;exact wid _ (by omega)
 have e2:((x.toNat:Nat):Int)*2 ^ (8*j)=((x.toNat*2 ^ (8*j):Nat):Int):=by push_cast;rfl
 have e3:v|||x.toNat*2 ^ (8*j)=v+x.toNat*2 ^ (8*j):=by
  have h:=Nat.shiftLeft_add_eq_or_of_lt (i:=8*j) (b:=v) (by omega) x.toNat
  rw[Nat.shiftLeft_eq] at h;rw[Nat.or_comm,<-h,Nat.add_comm]
 rw[p1] at hv ⊢
 obtain⟨q,hq⟩:∃ q,q=2 ^ (8*j):=⟨_,rfl⟩
 have b1:x.toNat*2 ^ (8*j)<4294967296:=by
  rw[<-hq] at p2 ⊢
  have:x.toNat*q<=255*16777216:=Nat.mul_le_mul (by omega) (by omega)
  omega
 rw[e1,e2,wid _ (by omega),or_nat _ _ (by omega) b1,e3]
theorem number_st(bs:Bs){A:Option Addr}{c n:Nat}(hs:St w0 X L w)(hA:Reads L A (bs.map v8))(hn:n=bs.length)(h4:n<=4):Calls Tryz.prog 153 #[.slice A n c] w fun e w'=>e=.returned (iv (num bs))/\St w0 X L w':=by
 have HA:=Lib.hid hA
 have HN:=Lib.hid hn
 clear hA hn
 go_enter Tryz.func153,Tryz.ntmps153
 go_wp2_with fail
 go_loopg [2,7] n (fun gh s2 s7 wr=>∃ (j:Nat),gh=n-j/\j<=n/\s7=.int .i64 j/\s2=iv (num (bs.take j))/\St w0 X L wr)
 case atStart=>exact⟨0,rfl,by omega,rfl,rfl,hs⟩
 case round =>
  clear hs
  rename World=>w
  obtain⟨j,rfl,hj,rfl,rfl,hs⟩:=hrel
  by_cases hlj:j<n
  ·have hlj':(j:Int)<(n:Int):=by omega
   have hjl:j<bs.length:=by have:=HN.out;omega
   obtain⟨x,hx⟩:∃ x,x=bs.getD j 0#8:=⟨_,rfl⟩
   have hcb:=Pd.v8_at bs j hjl
   rw[<-hx] at hcb
   obtain⟨ga,oa,rfl,hca⟩:=Rd_cell (HA.out w hs.hold) j hcb
   have ex:bs[j]=x:=by rw[hx];simp[hjl]
   have ST:num (bs.take (j+1))=num (bs.take j)+x.toNat*256 ^ j:=by rw[<-ex,List.take_succ_eq_append_getElem hjl,num_snoc,List.length_take,Nat.min_eq_left (by omega)]
   have LT:num (bs.take j)<256 ^ j:=by have h:=num_lt (bs.take j);rwa [List.length_take,Nat.min_eq_left (by omega)] at h
   obtain⟨v,hv⟩:∃ v,v=num (bs.take j):=⟨_,rfl⟩
   rw[<-hv] at ST LT ⊢
   have ST:=Lib.hid ST
   have LT:=Lib.hid LT
   clear hx hcb ex hjl hv
   go_wp2_with fail
   rw[or_sh v x j LT.out (by omega),<-ST.out]
   go_roundg (n-(j+1))
   case measure=>omega
   case rel=>exact⟨j+1,rfl,by omega,by go_num,rfl,hs⟩
  ·obtain rfl:j=n:=by omega
   have e:bs.take j=bs:=by rw[HN.out,List.take_length]
   rw[e]
   go_wp2_with fail
   go_ret;exact⟨rfl,hs⟩
def isz(x:BitVec 8):Bool:=x==0#8
theorem n8_ne(x:BitVec 8):(x=0#8/\n8 x=0)\/(isz x=false/\¬ n8 x=0):=by
 by_cases h:x=0#8
 ·left;subst h;exact⟨rfl,rfl⟩
 ·right
  refine⟨by simp[isz,h],fun h2=>h ?_⟩
  apply BitVec.eq_of_toNat_eq
  have:((x.toNat:Nat):Int)=0:=h2
  simp;omega
theorem zeros1_any(x:BitVec 8)(w:World):Calls Tryz.prog 219 #[.int .u8 (n8 x)] w fun e w'=>e=.returned (.bool (!isz x))/\w'=w:=by
 rcases n8_ne x with ⟨rfl,h⟩|⟨h1,h⟩
 ·rw[h]
  clear h
  go_enter Tryz.func219,Tryz.ntmps219
  go_wp2
  go_ret;exact⟨rfl,rfl⟩
 ·rw[h1]
  obtain⟨k,hk⟩:∃ k,k=n8 x:=⟨_,rfl⟩
  rw[<-hk] at h ⊢
  have h0:(k != 0)=true:=by simp[h]
  clear h1 hk
  go_enter Tryz.func219,Tryz.ntmps219
  go_wp2
  go_ret;exact⟨rfl,rfl⟩
theorem indexFunc_st(hs:St w0 X L w){bs:Bs}{A:Option Addr}{n c:Nat}(hn:n=bs.length)(hA:Reads L A (bs.map v8))(hle:n<=70368744177664) :
  Calls Tryz.prog 231 #[.slice A n c,.func (.func 219) #[] #[]] w fun e w'=>∃ z:Int,e=.returned (.int .i64 z)/\decide (0<=z) = !(bs.all isz)/\St w0 X L w':=by
 have HN:=Lib.hid hn
 have HA:=Lib.hid hA
 clear hn hA
 go_enter Tryz.func231,Tryz.ntmps231
 go_wp2_with fail
 go_loopg [8] n (fun gh s8 wr=>∃ i:Nat,gh=n-i/\i<=n/\s8=.int .i64 i/\Hid ((bs.take i).all isz=true)/\St w0 X L wr)
 case atStart=>exact⟨0,rfl,by omega,rfl,Lib.hid rfl,hs⟩
 case round =>
  clear hs
  rename World=>w
  obtain⟨i,rfl,hi,rfl,HT,hs⟩:=hrel
  by_cases hlt:i<n
  ·have hlt':(i:Int)<(n:Int):=by omega
   have hx:i<bs.length:=by have:=HN.out;omega
   obtain⟨ga,oa,rfl,hca⟩:=Rd_cell (HA.out w hs.hold) i (Pd.v8_at bs i hx)
   obtain⟨x,hxe⟩:∃ x,x=bs.getD i 0#8:=⟨_,rfl⟩
   rw[<-hxe] at hca
   have ex:bs[i]=x:=by rw[hxe];simp[hx]
   have C:=Lib.hid (fun w=>zeros1_any x w)
   cases h0:isz x with
   | true =>
    rw[h0] at C
    have HT2:Hid ((bs.take (i+1)).all isz=true):=Lib.hid (by rw[List.take_succ_eq_append_getElem hx,List.all_append,HT.out,ex];simp[h0])
    clear hx ex hxe h0
    go_wp2_with (first|(go_at_call 219;refine Calls.mono (C.out _) ?_;rintro e w' ⟨rfl,rfl⟩))
    go_roundg (n-(i+1))
    case measure=>omega
    case rel=>exact⟨i+1,rfl,by omega,by go_num,HT2,hs⟩
   | false =>
    rw[h0] at C
    have HZ:bs.all isz=false:=by
     rw[<-Bool.not_eq_true,List.all_eq_true];intro h
     have:=h bs[i] (List.getElem_mem hx)
     rw[ex,h0] at this
     cases this
    clear hx ex hxe h0
    go_wp2_with (first|(go_at_call 219;refine Calls.mono (C.out _) ?_;rintro e w' ⟨rfl,rfl⟩))
    go_ret;exact⟨i,rfl,by rw[HZ];simp,hs⟩
  ·obtain rfl:i=n:=by omega
   have HZ:bs.all isz=true:=by have:=HT.out;rwa [List.take_of_length_le (by rw[<-HN.out];exact Nat.le_refl _)] at this
   go_wp2_with fail
   go_ret;exact⟨-1,rfl,by rw[HZ];rfl,hs⟩
theorem containsFunc_st(hs:St w0 X L w){bs:Bs}{A:Option Addr}{n c:Nat}(hn:n=bs.length)(hA:Reads L A (bs.map v8))(hle:n<=70368744177664) :
  Calls Tryz.prog 218 #[.slice A n c,.func (.func 219) #[] #[]] w fun e w'=>e=.returned (.bool (!(bs.all isz)))/\St w0 X L w':=by
 obtain⟨b,hb⟩:∃ b,b=bs.all isz:=⟨_,rfl⟩
 have C:=Lib.hid (indexFunc_st hs (c:=c) hn hA hle)
 rw[<-hb] at C ⊢;clear hn hA hb
 go_enter Tryz.func218,Tryz.ntmps218
 go_wp2_with (first|(go_at_call 231;refine Calls.mono (C.out) ?_;clear hs;rintro e w ⟨z,rfl,hz,hs⟩))
 go_ret;exact⟨by rw[<-hz];rfl,hs⟩
theorem zeros_st(hs:St w0 X L w){bs:Bs}{A:Option Addr}{n c:Nat}(hn:n=bs.length)(hA:Reads L A (bs.map v8))(hle:n<=70368744177664) :
  Calls Tryz.prog 188 #[.slice A n c] w fun e w'=>e=.returned (.bool (zer bs))/\St w0 X L w':=by
 obtain⟨b,hb⟩:∃ b,b=bs.all isz:=⟨_,rfl⟩
 have C:=Lib.hid (containsFunc_st hs (c:=c) hn hA hle)
 have HE:=Lib.hid (show zer bs=b by rw[hb];rfl)
 rw[<-hb] at C;rw[HE.out];clear hn hA hb HE
 go_enter Tryz.func188,Tryz.ntmps188
 go_wp2_with (first|(go_at_call 218;refine Calls.mono (C.out) ?_;clear hs;rintro e w ⟨rfl,hs⟩))
 go_ret;exact⟨by cases b <;> rfl,hs⟩
theorem and3:∀ y:BitVec 8,wrap64 (bits .and .u8 (n8 y) 3)=((y.toNat%4:Nat):Int):=by decide +kernel
theorem direction_st(hs:St w0 X L w)(b:Bs)(hb:b.length=64) :
  Calls Tryz.prog 155 #[.agg (b.map v8).toArray] w fun e w'=>e=.returned (iv (dirE b))/\St w0 X L w':=by
 obtain⟨R,hR⟩:∃ R,R=b.map v8:=⟨_,rfl⟩
 have RL:=Lib.hid (show R.length=64 by rw[hR,List.length_map,hb])
 have R0:=Lib.hid (show R[0]? = some (.int .u8 (n8 (at_ b 0))) by rw[hR];exact Pd.v8_at b 0 (by omega))
 have R4:=Lib.hid (show R[4]? = some (.int .u8 (n8 (at_ b 4))) by rw[hR];exact Pd.v8_at b 4 (by omega))
 have D:=Lib.hid (show dirE b=if at_ b 0=127#8 then (at_ b 4).toNat%4 else (at_ b 0).toNat%4 from rfl)
 rw[<-hR]
 obtain⟨x,hx⟩:∃ x,x=at_ b 0:=⟨_,rfl⟩
 obtain⟨y,hy⟩:∃ y,y=at_ b 4:=⟨_,rfl⟩
 rw[<-hx] at R0 D;rw[<-hy] at R4 D
 obtain⟨d,hd⟩:∃ d,d=dirE b:=⟨_,rfl⟩
 rw[<-hd] at D ⊢;clear hR hb hx hy hd
 go_enter Tryz.func155,Tryz.ntmps155
 go_upto_region 1 with (first|((first|with_reducible refine Se.ab hs ?_|with_reducible refine Se.abc hs ?_);clear hs;(first|(generalize w.heap.size=g1;intro w hs))))
 by_cases h:x=127#8
 ·rw[if_pos h] at D
  rw[show n8 x=127 by rw[h];rfl] at R0;clear h
  go_wp2_with (first|((with_reducible refine Se.iL 4 ?_);(refine Se.Ld hs rfl rfl (Cell.blk 0 rfl R0.out) ?_))|((with_reducible refine Se.iL 7 ?_);(refine Se.Ld hs rfl rfl (Cell.blk 0 rfl R4.out) ?_)))
  go_ret;exact⟨by rw[D.out,iv,<-and3];rfl,hs.drop⟩
 ·rw[if_neg h] at D
  have h2:n8 x≠127:=fun h2=>h (by apply BitVec.eq_of_toNat_eq;have:((x.toNat:Nat):Int)=127:=h2;simp;omega)
  have E:=Lib.hid (show iv d=.int .i64 (wrap64 (bits .and .u8 (n8 x) 3)) by rw[D.out,iv,and3])
  obtain⟨k,hk⟩:∃ k,k=n8 x:=⟨_,rfl⟩
  rw[<-hk] at h2 R0 E;clear h hk D
  go_wp2_with (first|((with_reducible refine Se.iL 4 ?_);(refine Se.Ld hs rfl rfl (Cell.blk 0 rfl R0.out) ?_))|((with_reducible refine Se.iL 11 ?_);(refine Se.Ld hs rfl rfl (Cell.blk 0 rfl R0.out) ?_)))
  go_ret;exact⟨by rw[E.out];rfl,hs.drop⟩
end Sn
end Go.Proofs.YtjnllcnknjlmmaaGreat
namespace Go.Proofs.YtjnllcnknjlmmaaGreat
open Go Go.RowKit
namespace Sn
open Pd (iv)
open Se (St At Reads Cell)
open Li (v8 Blk)
open Bv (n8)
variable {w0 w:World} {X:List Nat} {L:List At}
attribute [local irreducible] Calls
theorem n8_lit(x:BitVec 8)(m:Nat)(h:m<256):x=BitVec.ofNat 8 m↔n8 x=(m:Int):=by
 constructor
 ·rintro rfl
  show((BitVec.ofNat 8 m).toNat:Int)=m
  rw[BitVec.toNat_ofNat,Nat.mod_eq_of_lt (by omega)]
 ·intro h2
  have h3:((x.toNat:Nat):Int)=m:=h2
  apply BitVec.eq_of_toNat_eq
  rw[BitVec.toNat_ofNat,Nat.mod_eq_of_lt (by omega)];omega
theorem sub_len(b:Bs)(hb:b.length=64)(i n:Nat)(h:i+n<=64):n=((b.drop i).take n).length:=by rw[List.length_take,List.length_drop,hb];omega
theorem sub_reads(b:Bs)(i n g:Nat)(T:TypeId)(L:List At):Reads (.blk g T (b.map v8)::L) (some ⟨g,i,none⟩) (((b.drop i).take n).map v8):=by
 have h:=((Reads.blk (L:=.blk g T (b.map v8)::L) 0 rfl).at i).take n
 rw[<-List.map_drop,<-List.map_take,Nat.zero_add] at h;exact h
theorem described_st{g:Nat}{s:Ss}{h:Hs}(hs:St w0 X (qS g s h::L) w)(b:Bs)(hb:b.length=64)(d:Nat) :
  Calls Tryz.prog 154 #[.pointer (some ⟨g,0,none⟩),.agg (b.map v8).toArray,iv d] w fun e w'=>e=.returned (.tuple #[iv (descE s.c b d).1,.bool (descE s.c b d).2])/\St w0 X (qS g s h::L) w':=by
 obtain⟨SL,hSL⟩:∃ SL,SL=scl s h:=⟨_,rfl⟩
 obtain⟨R,hR⟩:∃ R,R=b.map v8:=⟨_,rfl⟩
 obtain⟨n,hn⟩:∃ n,n=lenE b:=⟨_,rfl⟩
 obtain⟨kd,hkd⟩:∃ kd,kd=at_ b 39:=⟨_,rfl⟩
 obtain⟨k,hk⟩:∃ k,k=n8 kd:=⟨_,rfl⟩
 have KD:=Lib.hid (show decide (kd=0#8)=decide (k=0)/\decide (kd=90#8)=decide (k=90)/\(kd=1#8)=(k=1) by rw[hk];exact⟨decide_eq_decide.2 (n8_lit kd 0 (by omega)),decide_eq_decide.2 (n8_lit kd 90 (by omega)),propext (n8_lit kd 1 (by omega))⟩)
 obtain⟨z1,hz1⟩:∃ z,z=zer ((b.drop 24).take 8):=⟨_,rfl⟩
 obtain⟨z2,hz2⟩:∃ z,z=zer ((b.drop 36).take 3):=⟨_,rfl⟩
 obtain⟨dr,hdr⟩:∃ dr,dr=dirE b:=⟨_,rfl⟩
 obtain⟨ic,hic⟩:∃ ic,ic=s.c.ic:=⟨_,rfl⟩
 have RL:=Lib.hid (show R.length=64 by rw[hR,List.length_map,hb])
 have R39:=Lib.hid (show R[39]? = some (.int .u8 k) by rw[hR,hk,hkd];exact Pd.v8_at b 39 (by omega))
 have S3:=Lib.hid (show SL[3]? = some (iv ic) by rw[hSL,hic];rfl)
 have CN:=Lib.hid (show ∀ (g1:Nat) (L':List At) (w:World),St w0 X (.blk g1 37 R::L') w->Calls Tryz.prog 153 #[.slice (some ⟨g1,32,none⟩) 4 32] w fun e w'=>e=.returned (iv n)/\St w0 X (.blk g1 37 R::L') w' by
  intro g1 L' w hs;rw[hR] at hs ⊢;rw[hn];exact number_st ((b.drop 32).take 4) hs (sub_reads b 32 4 g1 _ L') (sub_len b hb 32 4 (by omega)) (by omega))
 have C1:=Lib.hid (show ∀ (g1:Nat) (L':List At) (w:World),St w0 X (.blk g1 37 R::L') w->Calls Tryz.prog 188 #[.slice (some ⟨g1,24,none⟩) 8 40] w fun e w'=>e=.returned (.bool z1)/\St w0 X (.blk g1 37 R::L') w' by
  intro g1 L' w hs;rw[hR] at hs ⊢;rw[hz1];exact zeros_st hs (sub_len b hb 24 8 (by omega)) (sub_reads b 24 8 g1 _ L') (by omega))
 have C2:=Lib.hid (show ∀ (g1:Nat) (L':List At) (w:World),St w0 X (.blk g1 37 R::L') w->Calls Tryz.prog 188 #[.slice (some ⟨g1,36,none⟩) 3 28] w fun e w'=>e=.returned (.bool z2)/\St w0 X (.blk g1 37 R::L') w' by
  intro g1 L' w hs;rw[hR] at hs ⊢;rw[hz2];exact zeros_st hs (sub_len b hb 36 3 (by omega)) (sub_reads b 36 3 g1 _ L') (by omega))
 have CD:=Lib.hid (show ∀ (L':List At) (w:World),St w0 X L' w->Calls Tryz.prog 155 #[.agg R.toArray] w fun e w'=>e=.returned (iv dr)/\St w0 X L' w' by
  intro L' w hs;rw[hR,hdr];exact direction_st hs b hb)
 obtain⟨Q,hQ⟩:∃ Q,Q=descE s.c b d:=⟨_,rfl⟩
 have D:=Lib.hid (show Q=descE s.c b d from hQ)
 unfold descE at D;rw[<-hn,<-hkd,<-hz1,<-hz2,<-hdr,<-hic,KD.out.1,KD.out.2.1] at D;simp only[KD.out.2.2] at D;clear KD hk;rw[<-hQ,<-hR]
 have K:Hid (∀ w',St w0 X (.blk g 112 SL::L) w'->St w0 X (qS g s h::L) w'):=Lib.hid (fun w' h=>by rw[hSL] at h;exact h)
 have hs2:St w0 X (.blk g 112 SL::L) w:=by rw[hSL];exact hs
 clear hs hQ hSL hR hn hkd hz1 hz2 hdr hic hb
 have hs:=hs2
 clear hs2
 go_enter Tryz.func154,Tryz.ntmps154
 go_upto_region 1 with (first|((first|with_reducible refine Se.ab hs ?_|with_reducible refine Se.abc hs ?_);clear hs;(first|(generalize w.heap.size=gb;intro w hs))))
 refine Ch.region' 6 (fun wx=>Blk wx gb R 37) (fun|1=>true|_=>false) (by kernel_rfl) (by decide +kernel) (hs.drew.hold (.blk gb 37 R) (by simp)) ?_;replace hs:=hs.drew;generalize w.drew=w at hs ⊢;change Ch.CW _ _ _ _ _ [0,1,2,3,4,5] _ _
 iterate 1 (refine Ch.pA ?_;(try simp only[pU]))
 refine Ch.cA (f:=153) (args:=#[.slice (some ⟨gb,32,none⟩) 4 32]) (CN.out _ _ _ hs) ?_;clear hs;rintro e w⟨rfl,hs⟩;refine⟨_,rfl,hs.hold (.blk gb 37 R) (by simp),?_⟩;(try simp only[pU])
 iterate 4 ((first|refine Ch.pA ?_|refine Ch.pE (hv:=fun wx hS=>Se.xL (hc:=((hS.cell _).trans R39.out))) (h:=?_));(try simp only[pU]))
 refine Ch.done ?_
 try simp only[List.drop_succ_cons,List.drop_zero]
 cases z1 with
 | false =>
  have E:=Lib.hid (show Q=(0,false) by rw[D.out];simp[])
  clear D
  go_wp2_with (first|((with_reducible refine Se.iL 26 ?_);(refine Se.Ldw hs rfl rfl (Reads.blk 0 rfl) (by rw[RL.out];kernel_rfl) ?_))|((with_reducible refine Se.iL 58 ?_);(refine Se.Ld hs rfl rfl (Cell.blk 1 rfl S3.out) ?_))|(go_at_call 188;refine Calls.mono (C1.out _ _ _ hs) ?_;clear hs;rintro e w ⟨rfl,hs⟩)|(go_at_call 188;refine Calls.mono (C2.out _ _ _ hs) ?_;clear hs;rintro e w ⟨rfl,hs⟩)|(go_at_call 155;refine Calls.mono (CD.out _ _ hs) ?_;clear hs;rintro e w ⟨rfl,hs⟩))
  go_ret2;exact⟨by rw[E.out];rfl,K.out _ hs.drop⟩
 | true =>
  cases z2 with
  | false =>
   have E:=Lib.hid (show Q=(0,false) by rw[D.out];simp[])
   clear D
   go_wp2_with (first|((with_reducible refine Se.iL 26 ?_);(refine Se.Ldw hs rfl rfl (Reads.blk 0 rfl) (by rw[RL.out];kernel_rfl) ?_))|((with_reducible refine Se.iL 58 ?_);(refine Se.Ld hs rfl rfl (Cell.blk 1 rfl S3.out) ?_))|(go_at_call 188;refine Calls.mono (C1.out _ _ _ hs) ?_;clear hs;rintro e w ⟨rfl,hs⟩)|(go_at_call 188;refine Calls.mono (C2.out _ _ _ hs) ?_;clear hs;rintro e w ⟨rfl,hs⟩)|(go_at_call 155;refine Calls.mono (CD.out _ _ hs) ?_;clear hs;rintro e w ⟨rfl,hs⟩))
   go_ret2;exact⟨by rw[E.out];rfl,K.out _ hs.drop⟩
  | true =>
   by_cases hn:1048576<n
   ·have hn':(1048576:Int)<(n:Int):=by omega
    have E:=Lib.hid (show Q=(0,false) by rw[D.out];simp[hn])
    clear D hn
    go_wp2_with (first|((with_reducible refine Se.iL 26 ?_);(refine Se.Ldw hs rfl rfl (Reads.blk 0 rfl) (by rw[RL.out];kernel_rfl) ?_))|((with_reducible refine Se.iL 58 ?_);(refine Se.Ld hs rfl rfl (Cell.blk 1 rfl S3.out) ?_))|(go_at_call 188;refine Calls.mono (C1.out _ _ _ hs) ?_;clear hs;rintro e w ⟨rfl,hs⟩)|(go_at_call 188;refine Calls.mono (C2.out _ _ _ hs) ?_;clear hs;rintro e w ⟨rfl,hs⟩)|(go_at_call 155;refine Calls.mono (CD.out _ _ hs) ?_;clear hs;rintro e w ⟨rfl,hs⟩))
    go_ret2;exact⟨by rw[E.out];rfl,K.out _ hs.drop⟩
   ·have hn':¬ (1048576:Int)<(n:Int):=by omega
    have D:Hid (Q=_):=Lib.hid (by rw[D.out,if_neg (by simp[hn])])
    clear hn
    by_cases h0:dr=0
    ·have h0i:(dr:Int)=0:=by omega
     by_cases hn0:n=0
     ·have hn0i:(n:Int)=0:=by omega
      have hn0b:((n:Int)==0)=true:=by simpa using hn0i
      by_cases hd0:d=0
      ·have hd0i:(d:Int)=0:=by omega
       have hd0b:((d:Int)==0)=true:=by simpa using hd0i
       by_cases k0:k=0
       ·have k0i:k=0:=by omega
        have k0b:(k==0)=true:=by simpa using k0i
        have E:=Lib.hid (show Q=(0,true) by rw[D.out];simp[h0,hn0,hd0,k0])
        clear D
        go_wp2_with (first|((with_reducible refine Se.iL 26 ?_);(refine Se.Ldw hs rfl rfl (Reads.blk 0 rfl) (by rw[RL.out];kernel_rfl) ?_))|((with_reducible refine Se.iL 58 ?_);(refine Se.Ld hs rfl rfl (Cell.blk 1 rfl S3.out) ?_))|(go_at_call 188;refine Calls.mono (C1.out _ _ _ hs) ?_;clear hs;rintro e w ⟨rfl,hs⟩)|(go_at_call 188;refine Calls.mono (C2.out _ _ _ hs) ?_;clear hs;rintro e w ⟨rfl,hs⟩)|(go_at_call 155;refine Calls.mono (CD.out _ _ hs) ?_;clear hs;rintro e w ⟨rfl,hs⟩))
        go_ret2;exact⟨by rw[E.out];rfl,K.out _ hs.drop⟩
       ·have k0i:¬ k=0:=by omega
        have k0b:(k==0)=false:=by simpa using k0i
        by_cases k9:k=90
        ·have k9i:k=90:=by omega
         have k9b:(k==90)=true:=by simpa using k9i
         have E:=Lib.hid (show Q=(0,true) by rw[D.out];simp[h0,hn0,hd0,k0,k9])
         clear D
         go_wp2_with (first|((with_reducible refine Se.iL 26 ?_);(refine Se.Ldw hs rfl rfl (Reads.blk 0 rfl) (by rw[RL.out];kernel_rfl) ?_))|((with_reducible refine Se.iL 58 ?_);(refine Se.Ld hs rfl rfl (Cell.blk 1 rfl S3.out) ?_))|(go_at_call 188;refine Calls.mono (C1.out _ _ _ hs) ?_;clear hs;rintro e w ⟨rfl,hs⟩)|(go_at_call 188;refine Calls.mono (C2.out _ _ _ hs) ?_;clear hs;rintro e w ⟨rfl,hs⟩)|(go_at_call 155;refine Calls.mono (CD.out _ _ hs) ?_;clear hs;rintro e w ⟨rfl,hs⟩))
         go_ret2;exact⟨by rw[E.out];rfl,K.out _ hs.drop⟩
        ·have k9i:¬ k=90:=by omega
         have k9b:(k==90)=false:=by simpa using k9i
         have E:=Lib.hid (show Q=(0,false) by rw[D.out];simp[h0,hn0,hd0,k0,k9])
         clear D
         go_wp2_with (first|((with_reducible refine Se.iL 26 ?_);(refine Se.Ldw hs rfl rfl (Reads.blk 0 rfl) (by rw[RL.out];kernel_rfl) ?_))|((with_reducible refine Se.iL 58 ?_);(refine Se.Ld hs rfl rfl (Cell.blk 1 rfl S3.out) ?_))|(go_at_call 188;refine Calls.mono (C1.out _ _ _ hs) ?_;clear hs;rintro e w ⟨rfl,hs⟩)|(go_at_call 188;refine Calls.mono (C2.out _ _ _ hs) ?_;clear hs;rintro e w ⟨rfl,hs⟩)|(go_at_call 155;refine Calls.mono (CD.out _ _ hs) ?_;clear hs;rintro e w ⟨rfl,hs⟩))
         go_ret2;exact⟨by rw[E.out];rfl,K.out _ hs.drop⟩
      ·have hd0i:¬ (d:Int)=0:=by omega
       have hd0b:((d:Int)==0)=false:=by simpa using hd0i
       have E:=Lib.hid (show Q=(0,false) by rw[D.out];simp[h0,hn0,hd0])
       clear D
       go_wp2_with (first|((with_reducible refine Se.iL 26 ?_);(refine Se.Ldw hs rfl rfl (Reads.blk 0 rfl) (by rw[RL.out];kernel_rfl) ?_))|((with_reducible refine Se.iL 58 ?_);(refine Se.Ld hs rfl rfl (Cell.blk 1 rfl S3.out) ?_))|(go_at_call 188;refine Calls.mono (C1.out _ _ _ hs) ?_;clear hs;rintro e w ⟨rfl,hs⟩)|(go_at_call 188;refine Calls.mono (C2.out _ _ _ hs) ?_;clear hs;rintro e w ⟨rfl,hs⟩)|(go_at_call 155;refine Calls.mono (CD.out _ _ hs) ?_;clear hs;rintro e w ⟨rfl,hs⟩))
       go_ret2;exact⟨by rw[E.out];rfl,K.out _ hs.drop⟩
     ·have hn0i:¬ (n:Int)=0:=by omega
      have hn0b:((n:Int)==0)=false:=by simpa using hn0i
      have E:=Lib.hid (show Q=(0,false) by rw[D.out];simp[h0,hn0])
      clear D
      go_wp2_with (first|((with_reducible refine Se.iL 26 ?_);(refine Se.Ldw hs rfl rfl (Reads.blk 0 rfl) (by rw[RL.out];kernel_rfl) ?_))|((with_reducible refine Se.iL 58 ?_);(refine Se.Ld hs rfl rfl (Cell.blk 1 rfl S3.out) ?_))|(go_at_call 188;refine Calls.mono (C1.out _ _ _ hs) ?_;clear hs;rintro e w ⟨rfl,hs⟩)|(go_at_call 188;refine Calls.mono (C2.out _ _ _ hs) ?_;clear hs;rintro e w ⟨rfl,hs⟩)|(go_at_call 155;refine Calls.mono (CD.out _ _ hs) ?_;clear hs;rintro e w ⟨rfl,hs⟩))
      go_ret2;exact⟨by rw[E.out];rfl,K.out _ hs.drop⟩
    ·have h0i:¬ (dr:Int)=0:=by omega
     by_cases h1:dr=1
     ·have h1i:(dr:Int)=1:=by omega
      by_cases k1:k=1
      ·have k1i:k=1:=by omega
       have k1b:(k==1)=true:=by simpa using k1i
       by_cases hnd:n=d
       ·have hndi:(n:Int)=(d:Int):=by omega
        have hndb:((n:Int)==(d:Int))=true:=by simpa using hndi
        by_cases hic:n<=ic
        ·have hici:(d:Int)<=(ic:Int):=by omega
         have hicb:decide ((d:Int)<=(ic:Int))=true:=by simpa using hici
         have E:=Lib.hid (show Q=(n,true) by rw[D.out];simp[h0,h1,k1,<-hnd,hic])
         clear D
         go_wp2_with (first|((with_reducible refine Se.iL 26 ?_);(refine Se.Ldw hs rfl rfl (Reads.blk 0 rfl) (by rw[RL.out];kernel_rfl) ?_))|((with_reducible refine Se.iL 58 ?_);(refine Se.Ld hs rfl rfl (Cell.blk 1 rfl S3.out) ?_))|(go_at_call 188;refine Calls.mono (C1.out _ _ _ hs) ?_;clear hs;rintro e w ⟨rfl,hs⟩)|(go_at_call 188;refine Calls.mono (C2.out _ _ _ hs) ?_;clear hs;rintro e w ⟨rfl,hs⟩)|(go_at_call 155;refine Calls.mono (CD.out _ _ hs) ?_;clear hs;rintro e w ⟨rfl,hs⟩))
         refine Ch.region' 15 (fun wx=>Blk wx g SL 112) (fun |_=>false) (by kernel_rfl) (by decide +kernel) (hs.drew.hold (.blk g 112 SL) (by simp)) ?_;replace hs:=hs.drew;generalize w.drew=w at hs ⊢;change Ch.CW _ _ _ _ _ [0,1,2,3,4,5,6,7,8,9,10,11,12,13,14] _ _
         iterate 15 ((first|refine Ch.pA ?_|refine Ch.pE (hv:=fun wx hS=>Se.xL (hc:=((hS.cell _).trans S3.out))) (h:=?_));(try simp only[pU]))
         refine Ch.done ?_
         try simp only[List.drop_succ_cons,List.drop_zero]
         go_wp2_with fail
         go_ret2;exact⟨by first|(rw[E.out];rfl)|(rw[E.out,hnd];rfl),K.out _ hs.drop⟩
        ·have hici:¬ (d:Int)<=(ic:Int):=by omega
         have hicb:decide ((d:Int)<=(ic:Int))=false:=by simpa using hici
         have E:=Lib.hid (show Q=(n,decide (d<=ic)) by rw[D.out];simp[h0,h1,k1,<-hnd,hic])
         clear D
         go_wp2_with (first|((with_reducible refine Se.iL 26 ?_);(refine Se.Ldw hs rfl rfl (Reads.blk 0 rfl) (by rw[RL.out];kernel_rfl) ?_))|((with_reducible refine Se.iL 58 ?_);(refine Se.Ld hs rfl rfl (Cell.blk 1 rfl S3.out) ?_))|(go_at_call 188;refine Calls.mono (C1.out _ _ _ hs) ?_;clear hs;rintro e w ⟨rfl,hs⟩)|(go_at_call 188;refine Calls.mono (C2.out _ _ _ hs) ?_;clear hs;rintro e w ⟨rfl,hs⟩)|(go_at_call 155;refine Calls.mono (CD.out _ _ hs) ?_;clear hs;rintro e w ⟨rfl,hs⟩))
         refine Ch.region' 15 (fun wx=>Blk wx g SL 112) (fun |_=>false) (by kernel_rfl) (by decide +kernel) (hs.drew.hold (.blk g 112 SL) (by simp)) ?_;replace hs:=hs.drew;generalize w.drew=w at hs ⊢;change Ch.CW _ _ _ _ _ [0,1,2,3,4,5,6,7,8,9,10,11,12,13,14] _ _
         iterate 15 ((first|refine Ch.pA ?_|refine Ch.pE (hv:=fun wx hS=>Se.xL (hc:=((hS.cell _).trans S3.out))) (h:=?_));(try simp only[pU]))
         refine Ch.done ?_
         try simp only[List.drop_succ_cons,List.drop_zero]
         go_wp2_with fail
         go_ret2;exact⟨by first|(rw[E.out];rfl)|(rw[E.out,hnd];rfl),K.out _ hs.drop⟩
       ·have hndi:¬ (n:Int)=(d:Int):=by omega
        have hndb:((n:Int)==(d:Int))=false:=by simpa using hndi
        have E:=Lib.hid (show Q=(n,false) by rw[D.out];simp[h0,h1,k1,hnd])
        clear D
        go_wp2_with (first|((with_reducible refine Se.iL 26 ?_);(refine Se.Ldw hs rfl rfl (Reads.blk 0 rfl) (by rw[RL.out];kernel_rfl) ?_))|((with_reducible refine Se.iL 58 ?_);(refine Se.Ld hs rfl rfl (Cell.blk 1 rfl S3.out) ?_))|(go_at_call 188;refine Calls.mono (C1.out _ _ _ hs) ?_;clear hs;rintro e w ⟨rfl,hs⟩)|(go_at_call 188;refine Calls.mono (C2.out _ _ _ hs) ?_;clear hs;rintro e w ⟨rfl,hs⟩)|(go_at_call 155;refine Calls.mono (CD.out _ _ hs) ?_;clear hs;rintro e w ⟨rfl,hs⟩))
        refine Ch.region' 15 (fun wx=>Blk wx g SL 112) (fun |_=>false) (by kernel_rfl) (by decide +kernel) (hs.drew.hold (.blk g 112 SL) (by simp)) ?_;replace hs:=hs.drew;generalize w.drew=w at hs ⊢;change Ch.CW _ _ _ _ _ [0,1,2,3,4,5,6,7,8,9,10,11,12,13,14] _ _
        iterate 5 (refine Ch.pA ?_;(try simp only[pU]))
        iterate 7 (refine Ch.sK ?_;(try simp only[pU]))
        iterate 3 (refine Ch.pA ?_;(try simp only[pU]))
        refine Ch.done ?_
        try simp only[List.drop_succ_cons,List.drop_zero]
        go_wp2_with fail
        go_ret2;exact⟨by rw[E.out];rfl,K.out _ hs.drop⟩
      ·have k1i:¬ k=1:=by omega
       have k1b:(k==1)=false:=by simpa using k1i
       by_cases k9:k=90
       ·have k9i:k=90:=by omega
        have k9b:(k==90)=true:=by simpa using k9i
        by_cases hd0:d=0
        ·have hd0i:(d:Int)=0:=by omega
         have hd0b:((d:Int)==0)=true:=by simpa using hd0i
         have E:=Lib.hid (show Q=(n,true) by rw[D.out];simp[h0,h1,k1,k9,hd0])
         clear D
         go_wp2_with (first|((with_reducible refine Se.iL 26 ?_);(refine Se.Ldw hs rfl rfl (Reads.blk 0 rfl) (by rw[RL.out];kernel_rfl) ?_))|((with_reducible refine Se.iL 58 ?_);(refine Se.Ld hs rfl rfl (Cell.blk 1 rfl S3.out) ?_))|(go_at_call 188;refine Calls.mono (C1.out _ _ _ hs) ?_;clear hs;rintro e w ⟨rfl,hs⟩)|(go_at_call 188;refine Calls.mono (C2.out _ _ _ hs) ?_;clear hs;rintro e w ⟨rfl,hs⟩)|(go_at_call 155;refine Calls.mono (CD.out _ _ hs) ?_;clear hs;rintro e w ⟨rfl,hs⟩))
         go_ret2;exact⟨by rw[E.out];rfl,K.out _ hs.drop⟩
        ·have hd0i:¬ (d:Int)=0:=by omega
         have hd0b:((d:Int)==0)=false:=by simpa using hd0i
         have E:=Lib.hid (show Q=(n,false) by rw[D.out];simp[h0,h1,k1,k9,hd0])
         clear D
         go_wp2_with (first|((with_reducible refine Se.iL 26 ?_);(refine Se.Ldw hs rfl rfl (Reads.blk 0 rfl) (by rw[RL.out];kernel_rfl) ?_))|((with_reducible refine Se.iL 58 ?_);(refine Se.Ld hs rfl rfl (Cell.blk 1 rfl S3.out) ?_))|(go_at_call 188;refine Calls.mono (C1.out _ _ _ hs) ?_;clear hs;rintro e w ⟨rfl,hs⟩)|(go_at_call 188;refine Calls.mono (C2.out _ _ _ hs) ?_;clear hs;rintro e w ⟨rfl,hs⟩)|(go_at_call 155;refine Calls.mono (CD.out _ _ hs) ?_;clear hs;rintro e w ⟨rfl,hs⟩))
         go_ret2;exact⟨by rw[E.out];rfl,K.out _ hs.drop⟩
       ·have k9i:¬ k=90:=by omega
        have k9b:(k==90)=false:=by simpa using k9i
        have E:=Lib.hid (show Q=(n,false) by rw[D.out];simp[h0,h1,k1,k9])
        clear D
        go_wp2_with (first|((with_reducible refine Se.iL 26 ?_);(refine Se.Ldw hs rfl rfl (Reads.blk 0 rfl) (by rw[RL.out];kernel_rfl) ?_))|((with_reducible refine Se.iL 58 ?_);(refine Se.Ld hs rfl rfl (Cell.blk 1 rfl S3.out) ?_))|(go_at_call 188;refine Calls.mono (C1.out _ _ _ hs) ?_;clear hs;rintro e w ⟨rfl,hs⟩)|(go_at_call 188;refine Calls.mono (C2.out _ _ _ hs) ?_;clear hs;rintro e w ⟨rfl,hs⟩)|(go_at_call 155;refine Calls.mono (CD.out _ _ hs) ?_;clear hs;rintro e w ⟨rfl,hs⟩))
        go_ret2;exact⟨by rw[E.out];rfl,K.out _ hs.drop⟩
     ·have h1i:¬ (dr:Int)=1:=by omega
      by_cases h2:dr=2
      ·have h2i:(dr:Int)=2:=by omega
       by_cases k9:k=90
       ·have k9i:k=90:=by omega
        have k9b:(k==90)=true:=by simpa using k9i
        by_cases hd0:d=0
        ·have hd0i:(d:Int)=0:=by omega
         have hd0b:((d:Int)==0)=true:=by simpa using hd0i
         have E:=Lib.hid (show Q=(n,true) by rw[D.out];simp[h0,h1,h2,k9,hd0])
         clear D
         go_wp2_with (first|((with_reducible refine Se.iL 26 ?_);(refine Se.Ldw hs rfl rfl (Reads.blk 0 rfl) (by rw[RL.out];kernel_rfl) ?_))|((with_reducible refine Se.iL 58 ?_);(refine Se.Ld hs rfl rfl (Cell.blk 1 rfl S3.out) ?_))|(go_at_call 188;refine Calls.mono (C1.out _ _ _ hs) ?_;clear hs;rintro e w ⟨rfl,hs⟩)|(go_at_call 188;refine Calls.mono (C2.out _ _ _ hs) ?_;clear hs;rintro e w ⟨rfl,hs⟩)|(go_at_call 155;refine Calls.mono (CD.out _ _ hs) ?_;clear hs;rintro e w ⟨rfl,hs⟩))
         go_ret2;exact⟨by rw[E.out];rfl,K.out _ hs.drop⟩
        ·have hd0i:¬ (d:Int)=0:=by omega
         have hd0b:((d:Int)==0)=false:=by simpa using hd0i
         have E:=Lib.hid (show Q=(n,false) by rw[D.out];simp[h0,h1,h2,k9,hd0])
         clear D
         go_wp2_with (first|((with_reducible refine Se.iL 26 ?_);(refine Se.Ldw hs rfl rfl (Reads.blk 0 rfl) (by rw[RL.out];kernel_rfl) ?_))|((with_reducible refine Se.iL 58 ?_);(refine Se.Ld hs rfl rfl (Cell.blk 1 rfl S3.out) ?_))|(go_at_call 188;refine Calls.mono (C1.out _ _ _ hs) ?_;clear hs;rintro e w ⟨rfl,hs⟩)|(go_at_call 188;refine Calls.mono (C2.out _ _ _ hs) ?_;clear hs;rintro e w ⟨rfl,hs⟩)|(go_at_call 155;refine Calls.mono (CD.out _ _ hs) ?_;clear hs;rintro e w ⟨rfl,hs⟩))
         go_ret2;exact⟨by rw[E.out];rfl,K.out _ hs.drop⟩
       ·have k9i:¬ k=90:=by omega
        have k9b:(k==90)=false:=by simpa using k9i
        have E:=Lib.hid (show Q=(n,false) by rw[D.out];simp[h0,h1,h2,k9])
        clear D
        go_wp2_with (first|((with_reducible refine Se.iL 26 ?_);(refine Se.Ldw hs rfl rfl (Reads.blk 0 rfl) (by rw[RL.out];kernel_rfl) ?_))|((with_reducible refine Se.iL 58 ?_);(refine Se.Ld hs rfl rfl (Cell.blk 1 rfl S3.out) ?_))|(go_at_call 188;refine Calls.mono (C1.out _ _ _ hs) ?_;clear hs;rintro e w ⟨rfl,hs⟩)|(go_at_call 188;refine Calls.mono (C2.out _ _ _ hs) ?_;clear hs;rintro e w ⟨rfl,hs⟩)|(go_at_call 155;refine Calls.mono (CD.out _ _ hs) ?_;clear hs;rintro e w ⟨rfl,hs⟩))
        go_ret2;exact⟨by rw[E.out];rfl,K.out _ hs.drop⟩
      ·have h2i:¬ (dr:Int)=2:=by omega
       have E:=Lib.hid (show Q=(0,false) by rw[D.out];simp[h0,h1,h2])
       clear D
       go_wp2_with (first|((with_reducible refine Se.iL 26 ?_);(refine Se.Ldw hs rfl rfl (Reads.blk 0 rfl) (by rw[RL.out];kernel_rfl) ?_))|((with_reducible refine Se.iL 58 ?_);(refine Se.Ld hs rfl rfl (Cell.blk 1 rfl S3.out) ?_))|(go_at_call 188;refine Calls.mono (C1.out _ _ _ hs) ?_;clear hs;rintro e w ⟨rfl,hs⟩)|(go_at_call 188;refine Calls.mono (C2.out _ _ _ hs) ?_;clear hs;rintro e w ⟨rfl,hs⟩)|(go_at_call 155;refine Calls.mono (CD.out _ _ hs) ?_;clear hs;rintro e w ⟨rfl,hs⟩))
       go_ret2;exact⟨by rw[E.out];rfl,K.out _ hs.drop⟩
end Sn
end Go.Proofs.YtjnllcnknjlmmaaGreat
namespace Go.Proofs.YtjnllcnknjlmmaaGreat
open Go Go.RowKit
namespace Pd
theorem hs_eq(p:PDU)(f:Fm):(if 0<hs p f then 4 else 0)=hs p f:=by unfold hs hsum;split <;> rfl
theorem ds_eq(p:PDU)(f:Fm):(if 0<ds p f then 4 else 0)=ds p f:=by unfold ds dsum;split <;> rfl
theorem head2_len(p:PDU)(f:Fm)(hv:valid p=true):(head2 p f).length=hdr p.h.k.toNat+hs p f:=by
 unfold head2;rw[List.length_append,head_len p f hv]
 by_cases h:0<hs p f
 ·rw[if_pos h,numL_length,<-hs_eq,if_pos h]
 ·rw[if_neg h];simp;omega
theorem pre_len(p:PDU)(f:Fm)(hf:framed f=true)(hv:valid p=true)(hd:0<p.da.length):(head2 p f++zs (at' p f-(head2 p f).length)).length=start p.h.k.toNat f:=by
 have h1:=start_ge p.h.k.toNat hf
 have h2:hs p f=hsum p.h.k.toNat f:=rfl
 rw[List.length_append,List.length_replicate,head2_len p f hv];unfold at';rw[if_pos hd];omega
theorem enc_len(p:PDU)(f:Fm)(hf:framed f=true)(hv:valid p=true):(enc p f).length=size p f:=by
 unfold enc size;rw[List.length_append,List.length_append]
 have hds:=ds_eq p f
 by_cases hd:0<p.da.length
 ·rw[pre_len p f hf hv hd,if_pos hd]
  by_cases h:0<ds p f
  ·rw[if_pos h] at hds ⊢;rw[numL_length];omega
  ·rw[if_neg h];simp;omega
 ·rw[if_neg hd]
  have h0:ds p f=0:=by unfold ds dsum;rw[if_neg];simp[hd]
  have hda:p.da.length=0:=by omega
  rw[if_neg (by omega),List.length_append,head2_len p f hv,hda];unfold at';rw[if_neg hd];simp
end Pd
end Go.Proofs.YtjnllcnknjlmmaaGreat
namespace Go.Proofs.YtjnllcnknjlmmaaGreat
open Go Go.RowKit
namespace Sn
open Pd (iv)
open Se (At Ps getP putP delP)
open Li (v8)
open Bv (n16)
def toP{α:Type}(f:α->Value)(l:List (BitVec 16 × α)):Ps:=l.map fun p=>(n16 p.1,f p.2)
def mapA{α β:Type}(f:α->β)(l:List (BitVec 16 × α)):List (BitVec 16 × β):=l.map fun p=>(p.1,f p.2)
section
variable {α β:Type}
theorem key_beq(a b:BitVec 16):(n16 a==n16 b)=(a==b):=Bv.n16_beq a b
theorem getP_toP(f:α->Value)(l:List (BitVec 16 × α))(k:BitVec 16):getP (toP f l) (n16 k)=(getA l k).map f:=by
 unfold getP getA toP
 induction l with
 | nil=>rfl
 | cons p l ih =>
  simp only[List.map_cons,List.find?_cons,key_beq]
  cases h:p.1==k with
  | true=>rfl
  | false=>exact ih
theorem putP_toP(f:α->Value)(l:List (BitVec 16 × α))(k:BitVec 16)(v:α):putP (toP f l) (n16 k) (f v)=toP f (putA l k v):=by
 unfold putP putA toP
 have h:(l.map fun p=>(n16 p.1,f p.2)).any (fun p=>p.1==n16 k)=l.any (fun p=>p.1==k):=by
  rw[List.any_map]
  congr 1
  funext p
  exact key_beq _ _
 rw[h]
 cases l.any (fun p=>p.1==k) with
 | true =>
  simp only[if_true,List.map_map];refine List.map_congr_left fun p _=>?_
  simp only[Function.comp,key_beq]
  cases p.1==k <;> rfl
 | false=>simp
theorem delP_toP(f:α->Value)(l:List (BitVec 16 × α))(k:BitVec 16):delP (toP f l) (n16 k)=toP f (delA l k):=by
 unfold delP delA toP;rw[List.filter_map]
 congr 1
 refine List.filter_congr fun p _=>?_
 simp only[Function.comp,key_beq]
theorem getA_mapA(f:α->β)(l:List (BitVec 16 × α))(k:BitVec 16):getA (mapA f l) k=(getA l k).map f:=by
 unfold getA mapA
 induction l with
 | nil=>rfl
 | cons p l ih =>
  simp only[List.map_cons,List.find?_cons]
  cases h:p.1==k with
  | true=>rfl
  | false=>exact ih
theorem putA_mapA(f:α->β)(l:List (BitVec 16 × α))(k:BitVec 16)(v:α):putA (mapA f l) k (f v)=mapA f (putA l k v):=by
 unfold putA mapA
 have h:(l.map fun p=>(p.1,f p.2)).any (fun p=>p.1==k)=l.any (fun p=>p.1==k):=by
  rw[List.any_map]
  rfl
 rw[h]
 cases l.any (fun p=>p.1==k) with
 | true =>
  simp only[if_true,List.map_map];refine List.map_congr_left fun p _=>?_
  simp only[Function.comp]
  cases p.1==k <;> rfl
 | false=>simp
theorem delA_mapA(f:α->β)(l:List (BitVec 16 × α))(k:BitVec 16):delA (mapA f l) k=mapA f (delA l k):=by
 unfold delA mapA;rw[List.filter_map]
 rfl
theorem any_mapA(f:α->β)(q:β->Bool)(l:List (BitVec 16 × α)):(mapA f l).any (fun p=>q p.2)=l.any (fun p=>q (f p.2)):=by
 unfold mapA;rw[List.any_map]
 rfl
theorem keys_toP(f:α->Value)(l:List (BitVec 16 × α)):(toP f l).map (·.1)=(l.map (·.1)).map n16:=by
 unfold toP;rw[List.map_map,List.map_map]
 rfl
theorem nodup_toP{f:α->Value}{l:List (BitVec 16 × α)}(h:((toP f l).map (·.1)).Nodup):(l.map (·.1)).Nodup:=by
 rw[keys_toP] at h;unfold List.Nodup at h ⊢;rw[List.pairwise_map] at h;exact h.imp fun h e=>h (by rw[e])
theorem len_toP(f:α->Value)(l:List (BitVec 16 × α)):(toP f l).length=l.length:=by unfold toP;rw[List.length_map]
theorem len_mapA(f:α->β)(l:List (BitVec 16 × α)):(mapA f l).length=l.length:=by unfold mapA;rw[List.length_map]
theorem getA_some{l:List (BitVec 16 × α)}{k:BitVec 16}{v:α}(h:getA l k=some v):(k,v)∈l:=by
 unfold getA at h
 cases h2:l.find? (fun p=>p.1==k) with
 | none=>rw[h2] at h;cases h
 | some p =>
  rw[h2] at h
  have h3:=List.find?_some h2
  have h4:=List.mem_of_find?_eq_some h2
  obtain⟨a,b⟩:=p
  simp only[beq_iff_eq] at h3;simp only[Option.map_some,Option.some.injEq] at h;subst h3 h;exact h4
theorem getA_none{l:List (BitVec 16 × α)}{k:BitVec 16}(h:getA l k=none):∀ p∈l,p.1≠k:=by
 unfold getA at h;rw[Option.map_eq_none_iff,List.find?_eq_none] at h;intro p hp;simpa using h p hp
theorem del_none{l:List (BitVec 16 × α)}{k:BitVec 16}(h:getA l k=none):delA l k=l:=List.filter_eq_self.2 fun p hp=>by simpa using getA_none h p hp
theorem put_none{l:List (BitVec 16 × α)}{k:BitVec 16}(v:α)(h:getA l k=none):putA l k v=l++[(k,v)]:=by
 unfold putA;rw[if_neg];simp only[List.any_eq_true,beq_iff_eq,not_exists,not_and];exact getA_none h
theorem perm_del{l:List (BitVec 16 × α)}{k:BitVec 16}{v:α}(hn:(l.map (·.1)).Nodup)(h:getA l k=some v):l.Perm ((k,v)::delA l k):=by
 induction l with
 | nil=>cases h
 | cons p l ih =>
  obtain⟨a,b⟩:=p
  simp only[List.map_cons,List.nodup_cons] at hn
  by_cases e:a=k
  ·subst e
   have hb:b=v:=by
    have:getA ((a,b)::l) a=some b:=by simp[getA]
    rw[this] at h;exact Option.some.inj h
   subst hb
   have hd:delA ((a,b)::l) a=l:=by
    unfold delA;rw[List.filter_cons_of_neg (by simp)];refine List.filter_eq_self.2 fun p hp=>?_
    have:p.1≠a:=fun e=>hn.1 (e ▸ List.mem_map.2 ⟨_,hp,rfl⟩)
    simpa using this
   rw[hd]
  ·have h2:getA l k=some v:=by
    unfold getA at h ⊢;rwa [List.find?_cons_of_neg (by simpa using e)] at h
   have hd:delA ((a,b)::l) k=(a,b)::delA l k:=by
    unfold delA;rw[List.filter_cons_of_pos (by simpa using e)]
   rw[hd];exact(List.Perm.cons _ (ih hn.2 h2)).trans (List.Perm.swap _ _ _)
theorem perm_put{l:List (BitVec 16 × α)}{k:BitVec 16}(v:α)(hn:(l.map (·.1)).Nodup):(putA l k v).Perm ((k,v)::delA l k):=by
 cases h:getA l k with
 | none =>
  rw[put_none v h,del_none h];exact List.perm_append_comm (l₂:=[(k,v)])
 | some u =>
  induction l with
  | nil=>cases h
  | cons p l ih =>
   obtain⟨a,b⟩:=p
   simp only[List.map_cons,List.nodup_cons] at hn
   by_cases e:a=k
   ·subst e
    have hd:delA ((a,b)::l) a=l:=by
     unfold delA;rw[List.filter_cons_of_neg (by simp)];refine List.filter_eq_self.2 fun p hp=>?_
     have:p.1≠a:=fun e=>hn.1 (e ▸ List.mem_map.2 ⟨_,hp,rfl⟩)
     simpa using this
    have hp:putA ((a,b)::l) a v=(a,v)::l:=by
     unfold putA;rw[if_pos (by simp)];simp only[List.map_cons,beq_self_eq_true,if_true,List.cons.injEq,true_and]
     have:l.map (fun p=>if p.1==a then (a,v) else p)=l.map id:=List.map_congr_left fun p hp=>by
      have:p.1≠a:=fun e=>hn.1 (e ▸ List.mem_map.2 ⟨_,hp,rfl⟩)
      simp[this]
     rw[this,List.map_id]
    rw[hd,hp]
   ·have h2:getA l k=some u:=by
     unfold getA at h ⊢;rwa [List.find?_cons_of_neg (by simpa using e)] at h
    have hd:delA ((a,b)::l) k=(a,b)::delA l k:=by
     unfold delA;rw[List.filter_cons_of_pos (by simpa using e)]
    have hp:putA ((a,b)::l) k v=(a,b)::putA l k v:=by
     have hin:l.any (fun p=>p.1==k)=true:=List.any_eq_true.2 ⟨_,getA_some h2,by simp⟩
     unfold putA;rw[hin,if_pos rfl,if_pos (by simp[hin])];simp[e]
    rw[hd,hp];exact(List.Perm.cons _ (ih hn.2 h2)).trans (List.Perm.swap _ _ _)
theorem del_put(l:List (BitVec 16 × α))(k:BitVec 16)(v:α):delA (putA l k v) k=delA l k:=by
 unfold putA
 split
 ·unfold delA
  rw[List.filter_map]
  have:∀ l:List (BitVec 16 × α),(l.filter ((fun p => !(p.1==k)) ∘ fun p=>if p.1==k then (k,v) else p)).map (fun p=>if p.1==k then (k,v) else p)=l.filter (fun p => !(p.1==k)):=by
   intro l
   induction l with
   | nil=>rfl
   | cons p l ih =>
    by_cases h:p.1=k
    ·rw[List.filter_cons_of_neg (by simp[Function.comp,h]),List.filter_cons_of_neg (by simp[h])]
     exact ih
    ·rw[List.filter_cons_of_pos (by simp[Function.comp,h]),List.map_cons,ih,List.filter_cons_of_pos (by simp[h])]
     simp[h]
  exact this l
 ·unfold delA
  rw[List.filter_append];simp
end
structure Th where
 r:Option Nat:=none
 A:Option Addr:=none
 c:Nat:=0
abbrev TL:=List (BitVec 16 × Tx × Th)
def txs(tl:TL):List (BitVec 16 × Tx):=mapA (·.1) tl
def txv(p:Tx × Th):List Value:=p.1.en.map v8++[.int .u16 (n16 p.1.tg),iv p.1.ln,.slice p.2.A p.1.da.length p.2.c,iv p.1.nd]
def tPs(tl:TL):Ps:=toP (fun p=>.agg (txv p).toArray) tl
def rPs(l:List (BitVec 16 × Nat)):Ps:=toP (fun n=>iv n) l
abbrev tA(p:Tx × Th):At:=.own 1 p.2.r p.2.A p.1.da.length p.2.c (p.1.da.map v8)
def tAs(tl:TL):List At:=tl.map fun p=>tA p.2
def rqv(p:Rq × Th):List Value:=.int .u16 (n16 p.1.id)::(p.1.en.map v8++[.slice p.2.A p.1.da.length p.2.c,iv p.1.rp])
def rqs(l:List (Rq × Th)):List Value:=l.flatMap rqv
abbrev qA(p:Rq × Th):At:=.own 1 p.2.r p.2.A p.1.da.length p.2.c (p.1.da.map v8)
def qAs(l:List (Rq × Th)):List At:=l.map qA
def rqo(l:List (Rq × Th)):List Rq:=l.map (·.1)
theorem tAs_perm{l l':TL}(h:l.Perm l'):(tAs l).Perm (tAs l'):=h.map _
end Sn
end Go.Proofs.YtjnllcnknjlmmaaGreat
namespace Go.Proofs.YtjnllcnknjlmmaaGreat
open Go Go.RowKit
namespace Pd
theorem xbd{P:Program}{o:Oper}{a:Act}{w:World}{ty:TypeId}{parts:List (Nat × Operand)}(ho:o.op=.build ty parts.toArray){vs:List (Nat × Value)}(hv:parts.map (fun p=>(p.1,a.eval p.2))=vs){v:Value}(hb:(Instr.build ty vs.toArray).run P w=.ok v w):(execOp a.eval o).run P w=.ok (.value v) w:=by
 subst hv;unfold execOp
 have e:(parts.toArray.map fun(i,x)=>(i,a.eval x))=(parts.map (fun p=>(p.1,a.eval p.2))).toArray:=by simp
 simp only[ho,e,Sem.run_bind,hb,Result.andThen_ok,Sem.run_pure]
end Pd
end Go.Proofs.YtjnllcnknjlmmaaGreat
namespace Go.Proofs.YtjnllcnknjlmmaaGreat
open Go Go.RowKit
namespace Sr
open Pd (Fm framed iv fl fv)
open Se (St At Reads Cell)
variable {w0 w:World} {X:List Nat} {L:List At} {s s':Rc} {g c:Nat} {B:Option Addr} {r:Option Nat}
attribute [local irreducible] Calls
theorem none_st(hs:St w0 X (pR g s B c::L) w)(hm:s.mo≠0):Calls Tryz.prog 116 #[.pointer (some ⟨g,0,none⟩)] w fun e w'=>e=.returned (.bool false)/\St w0 X (pR g s B c::L) w':=by
 obtain⟨RL,hRL⟩:∃ RL,RL=rcl s B c:=⟨_,rfl⟩
 obtain⟨m,hmm⟩:∃ m,m=s.mo:=⟨_,rfl⟩
 have R3:=Lib.hid (show RL[3]? = some (iv m) by rw[hRL,hmm];rfl)
 have m0:((m:Int)==0)=false:=by simp;omega
 simp only[pR] at hs ⊢;rw[<-hRL] at hs ⊢;clear hRL hm hmm
 go_enter Tryz.func116,Tryz.ntmps116
 go_wp2_with (first|((with_reducible refine Se.iL 9 ?_);(refine Se.Ld hs rfl rfl (Cell.blk 0 rfl R3.out) ?_)))
 go_ret;exact⟨rfl,hs⟩
theorem ready_st(hs:St w0 X (pR g s B c::L) w)(hm:s.mo≠0):Calls Tryz.prog 99 #[.pointer (some ⟨g,0,none⟩)] w fun e w'=>e=.returned (iv s.e)/\St w0 X (pR g s B c::L) w':=by
 obtain⟨RL,hRL⟩:∃ RL,RL=rcl s B c:=⟨_,rfl⟩
 have CN:Hid (∀ (w:World),St w0 X (.blk g 185 RL::L) w->Calls Tryz.prog 116 #[.pointer (some ⟨g,0,none⟩)] w fun e w'=>e=.returned (.bool false)/\St w0 X (.blk g 185 RL::L) w'):=Lib.hid (fun w hs=>by rw[hRL] at hs ⊢;exact none_st hs hm)
 have R5:=Lib.hid (show RL[5]? = some (iv s.e) by rw[hRL];rfl)
 simp only[pR] at hs ⊢;rw[<-hRL] at hs ⊢;clear hRL hm
 go_enter Tryz.func99,Tryz.ntmps99
 go_wp2_with (first|((with_reducible refine Se.iL 8 ?_);(refine Se.Ld hs rfl rfl (Cell.blk 0 rfl R5.out) ?_))|(go_at_call 116;refine Calls.mono (CN.out _ hs) ?_;clear hs;rintro e w ⟨rfl,hs⟩))
 go_ret;exact⟨rfl,hs⟩
theorem valid_st(hs:St w0 X L w)(f:Fm):Calls Tryz.prog 97 #[fv f] w fun e w'=>e=.returned (.bool (framed f))/\St w0 X L w':=by
 obtain⟨b,hb⟩:∃ b,framed f=b:=⟨_,rfl⟩
 obtain⟨F,hF⟩:∃ F,F=fl f:=⟨_,rfl⟩
 obtain⟨al,hal⟩:∃ al,al=f.al:=⟨_,rfl⟩
 have F2:=Lib.hid (show F[2]? = some (.int .i64 al) by rw[hF,hal];rfl)
 have hb2:b=(decide (0<=al)&&decide (al<=31)):=by rw[<-hb,hal];unfold framed;rw[Bool.eq_iff_iff];simp
 rw[Pd.fv_eq,<-hF,hb];clear hF hb hal
 by_cases h1:0<=al
 ·by_cases h2:al<=31
  ·have hbt:=Lib.hid (show b=true by rw[hb2];simp[h1,h2])
   clear hb2
   go_enter Tryz.func97,Tryz.ntmps97
   go_wp2_with (first|((with_reducible refine Se.iL 4 ?_);(refine Se.Ld hs rfl rfl (Cell.blk 0 rfl F2.out) ?_))|((with_reducible refine Se.iL 8 ?_);(refine Se.Ld hs rfl rfl (Cell.blk 0 rfl F2.out) ?_))|((first|with_reducible refine Se.ab hs ?_|with_reducible refine Se.abc hs ?_);clear hs;(first|(generalize w.heap.size=g1;intro w hs))))
   go_ret;exact⟨by rw[hbt.out];rfl,hs.drop⟩
  ·have hbt:=Lib.hid (show b=false by rw[hb2];simp[h2])
   clear hb2
   go_enter Tryz.func97,Tryz.ntmps97
   go_wp2_with (first|((with_reducible refine Se.iL 4 ?_);(refine Se.Ld hs rfl rfl (Cell.blk 0 rfl F2.out) ?_))|((with_reducible refine Se.iL 8 ?_);(refine Se.Ld hs rfl rfl (Cell.blk 0 rfl F2.out) ?_))|((first|with_reducible refine Se.ab hs ?_|with_reducible refine Se.abc hs ?_);clear hs;(first|(generalize w.heap.size=g1;intro w hs))))
   go_ret;exact⟨by rw[hbt.out];rfl,hs.drop⟩
 ·have hbt:=Lib.hid (show b=false by rw[hb2];simp[h1])
  clear hb2
  go_enter Tryz.func97,Tryz.ntmps97
  go_wp2_with (first|((with_reducible refine Se.iL 4 ?_);(refine Se.Ld hs rfl rfl (Cell.blk 0 rfl F2.out) ?_))|((first|with_reducible refine Se.ab hs ?_|with_reducible refine Se.abc hs ?_);clear hs;(first|(generalize w.heap.size=g1;intro w hs))))
  go_ret;exact⟨by rw[hbt.out];rfl,hs.drop⟩
theorem reframe_st(hs:St w0 X (pR g s B c::L) w)(hm:s.mo≠0)(f:Fm){e:Nat}(hr:refE s f=(s',e)) :
  Calls Tryz.prog 140 #[.pointer (some ⟨g,0,none⟩),fv f] w fun e' w'=>e'=.returned (iv e)/\St w0 X (pR g s' B c::L) w':=by
 obtain⟨RL,hRL⟩:∃ RL,RL=rcl s B c:=⟨_,rfl⟩
 obtain⟨F,hF⟩:∃ F,F=fl f:=⟨_,rfl⟩
 obtain⟨b,hb⟩:∃ b,framed f=b:=⟨_,rfl⟩
 obtain⟨ee,hee⟩:∃ ee,ee=s.e:=⟨_,rfl⟩
 have FL:=Lib.hid (show F.length=3 by rw[hF];rfl)
 have FO:=Lib.hid (show ∀ v∈F,v.oneCell'=true by rw[hF];simp[fl,Value.oneCell'])
 have CV:Hid (∀ (L:List At) (w:World),St w0 X L w->Calls Tryz.prog 97 #[.agg F.toArray] w fun e w'=>e=.returned (.bool b)/\St w0 X L w'):=Lib.hid (fun L w hs=>by rw[hF,<-Pd.fv_eq,<-hb];exact valid_st hs f)
 have CR:Hid (∀ (L:List At) (w:World),St w0 X (.blk g 185 RL::L) w->Calls Tryz.prog 99 #[.pointer (some ⟨g,0,none⟩)] w fun e w'=>e=.returned (iv ee)/\St w0 X (.blk g 185 RL::L) w'):=Lib.hid (fun L w hs=>by rw[hRL] at hs ⊢;rw[hee];exact ready_st hs hm)
 have RLen:=Lib.hid (show RL.length=8 by rw[hRL];rfl)
 have HR2:Hid (RL.take 0++F++RL.drop (0+F.length)=rcl { s with f:=f } B c):=Lib.hid (by rw[hRL,hF];rfl)
 have HRL:=Lib.hid hRL
 have HEE:=Lib.hid hee
 simp only[pR] at hs ⊢;rw[<-hRL] at hs;unfold refE at hr;rw[<-hee,hb] at hr;rw[Pd.fv_eq,<-hF];clear hRL hm hF hb hee
 by_cases h0:ee=0
 ·rw[if_neg (by simpa using h0)] at hr
  subst h0
  cases b with
  | false =>
   cases hr
   go_enter Tryz.func140,Tryz.ntmps140
   go_wp2_with (first|((with_reducible refine Se.iL 11 ?_);(refine Se.Ldw hs rfl rfl (Reads.blk 1 rfl) (by rw[FL.out];kernel_rfl) ?_))|((first|with_reducible refine Se.ab hs ?_|with_reducible refine Se.abc hs ?_);clear hs;(first|(generalize w.heap.size=g3;intro w hs)))|(go_at_call 99;refine Calls.mono (CR.out _ _ (hs.perm (List.Perm.swap _ _ _))) ?_;clear hs;rintro e w ⟨rfl,hs⟩)|(go_at_call 97;refine Calls.mono (CV.out _ _ hs) ?_;clear hs;rintro e w ⟨rfl,hs⟩))
   go_ret;exact⟨rfl,by rw[HRL.out] at hs;exact(hs.perm (List.Perm.swap _ _ _)).drop⟩
  | true =>
   cases hr
   go_enter Tryz.func140,Tryz.ntmps140
   go_wp2_with (first|((with_reducible refine Se.iL 11 ?_);(refine Se.Ldw hs rfl rfl (Reads.blk 1 rfl) (by rw[FL.out];kernel_rfl) ?_))|((with_reducible refine Se.iL 15 ?_);(refine Se.Ldw hs rfl rfl (Reads.blk 1 rfl) (by rw[FL.out];kernel_rfl) ?_))|((first|with_reducible refine Se.ab hs ?_|with_reducible refine Se.abc hs ?_);clear hs;(first|(generalize w.heap.size=g3;intro w hs)))|(go_at_call 99;refine Calls.mono (CR.out _ _ (hs.perm (List.Perm.swap _ _ _))) ?_;clear hs;rintro e w ⟨rfl,hs⟩)|(go_at_call 97;refine Calls.mono (CV.out _ _ hs) ?_;clear hs;rintro e w ⟨rfl,hs⟩)|(with_reducible refine Se.isL (o:=⟨none,_,_,_,_,_⟩) ?_;refine Se.toL rfl (Se.soa 0 hs rfl rfl rfl rfl FO.out (by rw[FL.out];kernel_rfl) (by rw[RLen.out,FL.out];decide) ?_);clear hs;intro w hs;simp only[List.set_cons_zero] at hs))
   go_ret;refine⟨rfl,?_⟩;rw[HR2.out,<-HEE.out] at hs;exact(hs.perm (List.Perm.swap _ _ _)).drop
 ·rw[if_pos h0] at hr
  cases hr
  have e1:=(int_ne h0).1
  clear h0
  go_enter Tryz.func140,Tryz.ntmps140
  go_wp2_with (first|((first|with_reducible refine Se.ab hs ?_|with_reducible refine Se.abc hs ?_);clear hs;(first|(generalize w.heap.size=g3;intro w hs)))|(go_at_call 99;refine Calls.mono (CR.out _ _ (hs.perm (List.Perm.swap _ _ _))) ?_;clear hs;rintro e w ⟨rfl,hs⟩))
  go_ret;exact⟨rfl,by rw[HRL.out] at hs;exact(hs.perm (List.Perm.swap _ _ _)).drop⟩
end Sr
end Go.Proofs.YtjnllcnknjlmmaaGreat
