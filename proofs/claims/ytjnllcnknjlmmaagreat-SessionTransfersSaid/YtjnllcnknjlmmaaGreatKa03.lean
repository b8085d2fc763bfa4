/- Contracts and plain facts for the laws of layer 41. No condition. -/
import Derived.Deep.LoopGhost
import Derived.Deep.CutBlock
import Derived.Deep.Light
import Derived.Outline
import Derived.Handy
import Derived.BigQuiet
import Derived.Recover
import Derived.Test.YtjnllcnknjlmmaaGreatKa02
set_option linter.unusedSimpArgs false
set_option linter.unusedVariables false
set_option maxRecDepth 100000
set_option maxHeartbeats 4000000
namespace Go.Proofs.YtjnllcnknjlmmaaGreat
namespace Pd
def crcPoly:BitVec 32:=0x82F63B78#32
def crc1(s:BitVec 32):BitVec 32:=(s>>>1)^^^(if s.getLsbD 0 then crcPoly else 0#32)
def crcN:Nat->BitVec 32->BitVec 32
 | 0,s=>s
 | n+1,s=>crcN n (crc1 s)
def crcB(s:BitVec 32)(b:BitVec 8):BitVec 32:=crcN 8 (s^^^b.setWidth 32)
def crcU(s:BitVec 32)(bs:List (BitVec 8)):BitVec 32:=bs.foldl crcB s
def crc(bs:List (BitVec 8)):BitVec 32 := ~~~ (crcU 0xFFFFFFFF#32 bs)
def bigL:List (BitVec 8)->Nat
 | []=>0
 | b::bs=>b.toNat+256*bigL bs
def numN:Nat->Nat->List (BitVec 8)
 | 0,_=>[]
 | n+1,v=>BitVec.ofNat 8 v::numN n (v / 256)
def numL(v:BitVec 32)(n:Nat):List (BitVec 8):=numN n v.toNat
abbrev zs(n:Nat):List (BitVec 8):=List.replicate n 0#8
structure Fm where
 hd:Bool
 dd:Bool
 al:Int
structure Hd where
 k:BitVec 8:=0#8
 la:Bool:=false
 su:Bool:=false
 id:BitVec 16:=0#16
 tg:BitVec 16:=0#16
 of:BitVec 32:=0#32
 ln:BitVec 32:=0#32
 al:BitVec 8:=0#8
 dg:BitVec 8:=0#8
 mx:BitVec 32:=0#32
 st:BitVec 16:=0#16
 nf:BitVec 32:=0#32
deriving DecidableEq
structure PDU where
 h:Hd:={}
 en:List (BitVec 8):=[]
 da:List (BitVec 8):=[]
deriving DecidableEq
def hdr:Nat->Nat
 | 0|1=>128
 | 4=>72
 | 2|3|5|6|7|9=>24
 | _=>0
def most:Nat->Nat
 | 2|3=>128
 | 4|6|7=>1048576
 | _=>0
def least:Nat->Nat
 | 6|7=>1
 | _=>0
def entl:Nat->Nat
 | 4=>64
 | 5=>16
 | _=>0
def framed(f:Fm):Bool:=decide (0<=f.al/\f.al<=31)
def only(p:PDU):Bool :=
 let k:=p.h.k.toNat
 let mv:=k=6\/k=7
 decide (¬ (p.h.la=true/\¬ mv\/p.h.su=true/\(k≠7\/p.h.la=false)\/p.en≠[]/\k≠4/\k≠5)) &&
 decide (¬ (p.h.id≠0#16/\¬ mv/\k≠9\/p.h.tg≠0#16/\k≠6/\k≠9\/p.h.of≠0#32/\¬ mv/\k≠9\/p.h.ln≠0#32/\k≠9)) &&
 decide ((p.h.al=0#8/\p.h.dg=0#8/\p.h.mx=0#32\/k<2)/\(p.h.st=0#16/\p.h.nf=0#32\/k=2\/k=3))
def own(p:PDU):Bool :=
 match p.h.k.toNat with
 | 0=>decide (p.h.al.toNat<=31/\p.h.dg.toNat<=3)
 | 1=>decide (p.h.al.toNat<=31/\p.h.dg.toNat<=3/\4096<=p.h.mx.toNat/\p.h.mx.toNat%4=0)
 | 4=>decide (p.en.length=64)
 | 5=>decide (p.en.length=16)
 | 6|7=>decide (0<p.da.length)
 | 9=>decide (0<p.h.ln.toNat)
 | _=>true
def valid(p:PDU):Bool:=decide (hdr p.h.k.toNat≠0)&&decide (p.da.length<=most p.h.k.toNat)&&only p&&own p
def hsum(k:Nat)(f:Fm):Nat:=if 3<k/\f.hd=true then 4 else 0
def dsum(k:Nat)(f:Fm)(data:Bool):Nat:=if 3<k/\f.dd=true/\data=true then 4 else 0
def unit(k:Nat)(f:Fm):Nat:=if 3<k then 4*(f.al.toNat+1) else 4
def start(k:Nat)(f:Fm):Nat:=(hdr k+hsum k f+unit k f-1) / unit k f*unit k f
def special(p:PDU):List (BitVec 8) :=
 match p.h.k.toNat with
 | 0|1=>[0#8,0#8,p.h.al,p.h.dg]++numL p.h.mx 4++zs 112
 | 2|3=>numL (p.h.st.setWidth 32) 2++numL p.h.nf 4++zs 10
 | 4|5=>p.en
 | 9=>numL (p.h.id.setWidth 32) 2++numL (p.h.tg.setWidth 32) 2++numL p.h.of 4++numL p.h.ln 4++zs 4
 | _=>numL (p.h.id.setWidth 32) 2++numL (p.h.tg.setWidth 32) 2++numL p.h.of 4++numL (BitVec.ofNat 32 p.da.length) 4++zs 4
def flagsN(p:PDU)(h d:Nat):Nat:=(if 0<h then 1 else 0)+(if 0<d then 2 else 0)+(if p.h.la then 4 else 0)+(if p.h.su then 8 else 0)
def at'(p:PDU)(f:Fm):Nat:=if 0<p.da.length then start p.h.k.toNat f else 0
def hs(p:PDU)(f:Fm):Nat:=hsum p.h.k.toNat f
def ds(p:PDU)(f:Fm):Nat:=dsum p.h.k.toNat f (decide (0<p.da.length))
def size(p:PDU)(f:Fm):Nat:=if 0<p.da.length then start p.h.k.toNat f+p.da.length+ds p f else hdr p.h.k.toNat+hs p f
def head(p:PDU)(f:Fm):List (BitVec 8) :=
 [p.h.k,BitVec.ofNat 8 (flagsN p (hs p f) (ds p f)),BitVec.ofNat 8 (hdr p.h.k.toNat),BitVec.ofNat 8 (at' p f)]++numL (BitVec.ofNat 32 (size p f)) 4++special p
def head2(p:PDU)(f:Fm):List (BitVec 8):=head p f++(if 0<hs p f then numL (crc (head p f)) 4 else [])
def enc(p:PDU)(f:Fm):List (BitVec 8) :=
 head2 p f++zs (at' p f-(head2 p f).length)++p.da++(if 0<ds p f then numL (crc p.da) 4 else [])
abbrev sub(b:List (BitVec 8))(i j:Nat):List (BitVec 8):=(b.take j).drop i
def bit(x:Nat)(i:Nat):Bool:=x / 2 ^ i%2==1
def meas(b:List (BitVec 8))(f:Fm):Nat × Nat :=
 if framed f=false then (0,2) else
 if b.length<8 then (0,4) else
 let k:=(b.getD 0 0#8).toNat
 let fl:=(b.getD 1 0#8).toNat
 let hl:=(b.getD 2 0#8).toNat
 let at0:=(b.getD 3 0#8).toNat
 let total:=bigL (sub b 4 8)
 if hdr k=0 then (0,360) else
 if 15<fl\/bit fl 2=true/\k≠6/\k≠7\/bit fl 3=true/\(k≠7\/bit fl 2=false)\/bit fl 0≠decide (0<hsum k f)\/bit fl 1=true/\(k<4\/f.dd=false) then (0,361) else
 if hl≠hdr k\/at0≠0/\at0≠start k f\/at0≠0/\most k=0\/at0=0/\(k=6\/k=7) then (0,362) else
 let d:=dsum k f (decide (0<at0))
 if bit fl 1≠decide (0<d)\/at0=0/\total≠hdr k+hsum k f\/0<at0/\(total<at0+1+d\/at0+most k+d<total) then (0,362) else
 (total,0)
def zeros(b:List (BitVec 8)):Bool:=b.all (· == 0#8)
def w16(b:List (BitVec 8)):BitVec 16:=BitVec.ofNat 16 (bigL b)
def w32(b:List (BitVec 8)):BitVec 32:=BitVec.ofNat 32 (bigL b)
def parse(k fl:Nat)(s data:List (BitVec 8)):PDU × Bool :=
 let h:Hd:={ k:=BitVec.ofNat 8 k,la:=bit fl 2,su:=bit fl 3 }
 match k with
 | 0|1=>({ h:={ h with al:=s.getD 2 0#8,dg:=s.getD 3 0#8,mx:=w32 (sub s 4 8) },da:=data },zeros (s.take 2)&&zeros (s.drop 8))
 | 2|3=>({ h:={ h with st:=w16 (s.take 2),nf:=w32 (sub s 2 6) },da:=data },zeros (s.drop 6))
 | 4|5=>({ h:=h,en:=s,da:=data },true)
 | 9=>({ h:={ h with id:=w16 (s.take 2),tg:=w16 (sub s 2 4),of:=w32 (sub s 4 8),ln:=w32 (sub s 8 12) },da:=data },zeros (s.drop 12))
 | _=>({ h:={ h with id:=w16 (s.take 2),tg:=w16 (sub s 2 4),of:=w32 (sub s 4 8) },da:=data },zeros (s.drop 12)&&decide (bigL (sub s 8 12)=data.length))
def dec(b:List (BitVec 8))(f:Fm):PDU × Nat :=
 let m:=meas b f
 if m.2≠0 then ({},m.2) else
 if b.length<m.1 then ({},4) else
 if m.1<b.length then ({},366) else
 let k:=(b.getD 0 0#8).toNat
 let at0:=(b.getD 3 0#8).toNat
 let n:=hdr k
 let h:=hsum k f
 let d:=dsum k f (decide (0<at0))
 if 0<h/\sub b n (n+4)≠numL (crc (b.take n)) 4 then ({},364) else
 let data:=if 0<at0 then sub b at0 (m.1-d) else []
 let pad:=if 0<at0 then sub b (n+h) at0 else []
 let r:=parse k (b.getD 1 0#8).toNat (sub b 8 n) data
 if r.2=false\/zeros pad=false\/valid r.1=false then ({},363) else
 if 0<d/\b.drop (m.1-4)≠numL (crc data) 4 then ({},365) else
 (r.1,0)
end Pd
end Go.Proofs.YtjnllcnknjlmmaaGreat
namespace Go.Proofs.YtjnllcnknjlmmaaGreat
namespace Pd
theorem xlc{n:Nat}(a b c:BitVec n):a^^^(b^^^c)=b^^^(a^^^c):=by rw[<-BitVec.xor_assoc,BitVec.xor_comm a b,BitVec.xor_assoc]
theorem xxc{n:Nat}(a b:BitVec n):a^^^(a^^^b)=b:=by rw[<-BitVec.xor_assoc,BitVec.xor_self,BitVec.zero_xor]
theorem crc1_xor(a b:BitVec 32):crc1 (a^^^b)=crc1 a^^^crc1 b:=by
 unfold crc1;rw[BitVec.ushiftRight_xor_distrib,BitVec.getLsbD_xor];generalize a>>>1=x;generalize b>>>1=y
 cases a.getLsbD 0 <;> cases b.getLsbD 0 <;> simp[BitVec.xor_assoc,BitVec.xor_comm,xlc,xxc]
 all_goals (apply BitVec.eq_of_getLsbD_eq;intro i hi;simp only[BitVec.getLsbD_xor];cases x.getLsbD i <;> cases y.getLsbD i <;> cases crcPoly.getLsbD i <;> rfl)
theorem crcN_xor:∀ (n:Nat) (a b:BitVec 32),crcN n (a^^^b)=crcN n a^^^crcN n b
 | 0,_,_=>rfl
 | n+1,a,b=>by simp only[crcN,crc1_xor,crcN_xor n]
theorem crc1_shl(x:BitVec 32)(h:x.getLsbD 31=false):crc1 (x <<< 1)=x:=by
 unfold crc1;rw[if_neg (by simp)]
 apply BitVec.eq_of_getLsbD_eq
 intro i hi;simp only[BitVec.getLsbD_xor,BitVec.getLsbD_ushiftRight,BitVec.getLsbD_shiftLeft,BitVec.getLsbD_zero,Bool.xor_false]
 by_cases h31:i=31
 ·subst h31
  rw[h];simp
 ·simp[show 1+i<32 by omega]
theorem crcN_shl:∀ (n:Nat) (x:BitVec 32),(∀ i,32<=i+n->x.getLsbD i=false)->crcN n (x <<< n)=x
 | 0,x,_=>by simp[crcN]
 | n+1,x,h=>by
  rw[crcN,BitVec.shiftLeft_add,crc1_shl,crcN_shl n]
  ·intro i hi;exact h i (by omega)
  ·rw[BitVec.getLsbD_shiftLeft]
   by_cases hn:31<n
   ·simp[hn]
   ·simp[show ¬ 31<n from hn]
    exact h _ (by omega)
theorem crcB_table(s:BitVec 32)(b:BitVec 8):(s>>>8)^^^crcN 8 ((s.setWidth 8^^^b).setWidth 32)=crcB s b:=by
 have e:s^^^b.setWidth 32=((s>>>8) <<< 8)^^^((s.setWidth 8^^^b).setWidth 32):=by
  apply BitVec.eq_of_getLsbD_eq
  intro i hi;simp only[BitVec.getLsbD_xor,BitVec.getLsbD_setWidth,BitVec.getLsbD_shiftLeft,BitVec.getLsbD_ushiftRight]
  by_cases h8:i<8
  ·simp[h8,hi]
  ·simp only[h8,hi,decide_true,decide_false,Bool.true_and,Bool.not_false,Bool.false_and,Bool.and_false,Bool.xor_false,show 8+(i-8)=i by omega]
   have:b.getLsbD i=false:=BitVec.getLsbD_of_ge _ _ (by omega)
   simp[this]
 unfold crcB;rw[e,crcN_xor,crcN_shl 8 _ ?_];intro i hi;rw[BitVec.getLsbD_ushiftRight];exact BitVec.getLsbD_of_ge _ _ (by omega)
theorem crc1_mul(s:BitVec 32):(s>>>1)^^^((s&&&1#32)*crcPoly)=crc1 s:=by
 unfold crc1
 congr 1
 cases h:s.getLsbD 0 with
 | true =>
  have:s&&&1#32=1#32:=by
   apply BitVec.eq_of_getLsbD_eq
   intro i hi;rw[BitVec.getLsbD_and]
   rcases Nat.eq_zero_or_pos i with rfl|hp
   ·simp[h]
   ·simp[BitVec.getLsbD_one,show ¬ i=0 by omega]
  rw[this];simp
 | false =>
  have:s&&&1#32=0#32:=by
   apply BitVec.eq_of_getLsbD_eq
   intro i hi;rw[BitVec.getLsbD_and]
   rcases Nat.eq_zero_or_pos i with rfl|hp
   ·rw[h];simp
   ·simp[BitVec.getLsbD_one,show ¬ i=0 by omega]
  rw[this];simp
end Pd
end Go.Proofs.YtjnllcnknjlmmaaGreat
namespace Go.Proofs.YtjnllcnknjlmmaaGreat
namespace Pd
theorem numN_length:∀ (n v:Nat),(numN n v).length=n
 | 0,_=>rfl
 | n+1,v=>by simp[numN,numN_length n]
theorem numL_length(v:BitVec 32)(n:Nat):(numL v n).length=n:=numN_length _ _
theorem numN_snoc:∀ (n v:Nat),numN (n+1) v=numN n v++[BitVec.ofNat 8 (v / 256 ^ n)]
 | 0,v=>by simp[numN]
 | n+1,v=>by
  rw[numN,numN_snoc n,numN,List.cons_append]
  congr 3
  rw[Nat.div_div_eq_div_mul,Nat.pow_succ,Nat.mul_comm]
theorem byte_shr(v:BitVec 32)(i:Nat):(v>>>(8*i)).setWidth 8=BitVec.ofNat 8 (v.toNat / 256 ^ i):=by
 apply BitVec.eq_of_toNat_eq
 rw[BitVec.toNat_setWidth,BitVec.toNat_ushiftRight,BitVec.toNat_ofNat,Nat.shiftRight_eq_div_pow,Nat.pow_mul]
theorem numL_snoc(v:BitVec 32)(i:Nat):numL v (i+1)=numL v i++[(v>>>(8*i)).setWidth 8]:=by
 unfold numL;rw[numN_snoc,byte_shr]
theorem bigL_append:∀ (a b:List (BitVec 8)),bigL (a++b)=bigL a+256 ^ a.length*bigL b
 | [],b=>by simp[bigL]
 | x::a,b=>by
  rw[List.cons_append,bigL,bigL_append a b,bigL,List.length_cons,Nat.pow_succ,Nat.mul_add,Nat.mul_comm (256 ^ a.length) 256,Nat.mul_assoc];omega
theorem bigL_lt:∀ (a:List (BitVec 8)),bigL a<256 ^ a.length
 | []=>by simp[bigL]
 | x::a=>by
  have:=bigL_lt a
  have:=x.isLt
  rw[bigL,List.length_cons,Nat.pow_succ];omega
theorem bigL_numN:∀ (n v:Nat),bigL (numN n v)=v%256 ^ n
 | 0,v=>by simp[numN,bigL,Nat.mod_one]
 | n+1,v=>by
  have e:(256:Nat) ^ (n+1)=256*256 ^ n:=by rw[Nat.pow_succ,Nat.mul_comm]
  rw[numN,bigL,bigL_numN n,BitVec.toNat_ofNat,e,Nat.mod_mul]
theorem numN_bigL:∀ (a:List (BitVec 8)),numN a.length (bigL a)=a
 | []=>rfl
 | x::a=>by
  rw[List.length_cons,numN,bigL]
  have h1:(x.toNat+256*bigL a) / 256=bigL a:=by have:=x.isLt;omega
  have h2:BitVec.ofNat 8 (x.toNat+256*bigL a)=x:=by
   apply BitVec.eq_of_toNat_eq
   rw[BitVec.toNat_ofNat]
   have:=x.isLt;omega
  rw[h1,h2,numN_bigL a]
theorem numL_mod(n v:Nat)(h:v<256 ^ n)(hn:n<=4):numL (BitVec.ofNat 32 v) n=numN n v:=by
 unfold numL
 have:256 ^ n<=2 ^ 32:=by
  have:256 ^ n<=256 ^ 4:=Nat.pow_le_pow_right (by omega) hn
  simpa using this
 rw[BitVec.toNat_ofNat,Nat.mod_eq_of_lt (by omega)]
theorem bigL_numL(v:BitVec 32):bigL (numL v 4)=v.toNat:=by
 unfold numL;rw[bigL_numN,Nat.mod_eq_of_lt]
 have:=v.isLt
 simpa using this
theorem w32_numL(v:BitVec 32):w32 (numL v 4)=v:=by
 unfold w32;rw[bigL_numL];simp
theorem numL_w32(a:List (BitVec 8))(h:a.length=4):numL (w32 a) 4=a:=by
 unfold w32;rw[numL_mod _ _ (by rw[<-h];exact bigL_lt a) (by omega),<-h,numN_bigL]
theorem numL_eq_iff(a:List (BitVec 8))(h:a.length=4)(v:BitVec 32):(w32 a=v)↔a=numL v 4:=by
 constructor
 ·intro e;rw[<-e,numL_w32 a h]
 ·intro e;rw[e,w32_numL]
theorem w32_snoc(a:List (BitVec 8))(b:BitVec 8)(h:a.length<4):w32 (a++[b])=w32 a|||(b.setWidth 32 <<< (8*a.length)):=by
 have hl:=bigL_lt a
 have e:(256:Nat) ^ a.length=2 ^ (8*a.length):=by rw[Nat.pow_mul]
 have h24:(2:Nat) ^ (8*a.length)<=2 ^ 24:=Nat.pow_le_pow_right (by omega) (by omega)
 apply BitVec.eq_of_toNat_eq
 unfold w32
 have hb:=b.isLt
 have hbig:bigL (a++[b])=bigL a+2 ^ (8*a.length)*b.toNat:=by rw[bigL_append,e];simp[bigL]
 rw[e] at hl
 have hp:2 ^ (8*a.length)*b.toNat+2 ^ (8*a.length)<=2 ^ (8*a.length)*256:=by
  have:2 ^ (8*a.length)*(b.toNat+1)<=2 ^ (8*a.length)*256:=Nat.mul_le_mul_left _ (by omega)
  rwa [Nat.mul_add,Nat.mul_one] at this
 have h32:2 ^ (8*a.length)*256<=2 ^ 32:=by
  have:(2:Nat) ^ (8*a.length)*256<=2 ^ 24*256:=Nat.mul_le_mul_right _ h24
  simpa using this
 have hlt:2 ^ (8*a.length)*b.toNat+bigL a<2 ^ 32:=by omega
 rw[hbig,BitVec.toNat_ofNat,BitVec.toNat_or,BitVec.toNat_ofNat,BitVec.toNat_shiftLeft,BitVec.toNat_setWidth,Nat.shiftLeft_eq];rw[Nat.mod_eq_of_lt (show b.toNat<2 ^ 32 by omega),Nat.mod_eq_of_lt (show bigL a<2 ^ 32 by omega),Nat.mul_comm b.toNat,Nat.mod_eq_of_lt (show 2 ^ (8*a.length)*b.toNat<2 ^ 32 by omega),Nat.mod_eq_of_lt (by omega),Nat.or_comm,<-Nat.two_pow_add_eq_or_of_lt hl,Nat.add_comm]
end Pd
end Go.Proofs.YtjnllcnknjlmmaaGreat
namespace Go.Proofs.YtjnllcnknjlmmaaGreat
open Go Go.RowKit
open Li (Fr)
namespace Se
variable {w0 w w':World} {X:List Nat} {L L':List At}
theorem St.join(h:St w0 X L w)(k:St w [] L' w')(hn:∀ a∈L',a.noRd):St w0 X (L'++L) w':=by
 refine St.turn (P:=[]) (P':=L') h ?_ k.hold hn k.nd fun b hb=>?_
 ·have:=k.fr
  simpa [ownedL] using this
 ·rcases Nat.lt_or_ge b w.heap.size with hlt|hge
  ·exact absurd (k.may b hb hlt) (by simp)
  ·exact .inr hge
theorem St.later{w1:World}(h:Below w.heap.size w w1)(k:St w1 [] L w')(hn:∀ b∈ownedL L,w1.heap.size<=b):St w [] L w':=by
 refine⟨k.hold,k.nd,k.sep,fun g hg hlt=>?_,?_⟩
 ·have:=hn g hg;have:=h.size;omega
 ·exact(Fr.ext h).trans k.fr fun b _ hx=>by simp at hx
end Se
namespace Pd
theorem u8i:(Tryz.prog.info? 5).map (fun i=>(i.zero,i.size))=some (some (.int .u8 0),1):=by kernel_rfl
theorem u8i3:(Tryz.prog.info? 5).map (fun i=>(i.zero,i.size,i.bytes))=some (some (.int .u8 0),1,1):=by kernel_rfl
theorem bysi:(Tryz.prog.info? 24).map (fun i=>(i.zero,i.size))=some (some (.slice none 0 0),1):=by kernel_rfl
structure Pt where
 A:Option Addr
 c:Nat
 bs:List (BitVec 8)
def Pt.v(p:Pt):Value:=.slice p.A p.bs.length p.c
end Pd
end Go.Proofs.YtjnllcnknjlmmaaGreat
namespace Go.Proofs.YtjnllcnknjlmmaaGreat
open Go Go.RowKit
namespace Pd
open Se (St At Reads)
open Li (v8 v8_one)
open Bv (n8 n32)
variable {w0 w:World} {X:List Nat} {L:List At}
attribute [local irreducible] Calls
section
attribute [local go_sem] Bv.of_n32 Bv.wrap_n8_of Bv.of8_n32
attribute [local go_sem ↓] Bv.shr_n32
theorem number_st(hs:St w0 X L w)(v:BitVec 32)(n:Nat)(hn:n<=4) :
  Calls Tryz.prog 135 #[.int .u32 (n32 v),.int .i64 n] w fun e w'=>∃ r B c,e=.returned (.slice B n c)/\St w0 X (.own 1 r B n c ((numL v n).map v8)::L) w':=by
 replace hs:=hs.nil_own 1 none
 go_enter Tryz.func135,Tryz.ntmps135
 go_wp2_with fail
 go_loopg [4,7] n (fun gh s4 s7 wr=>∃ (i:Nat) (r:Option Nat) (B:Option Addr) (c':Nat),gh=n-i/\i<=n/\s7=.int .i64 i/\s4=.slice B i c'/\St w0 X (.own 1 r B i c' ((numL v i).map v8)::L) wr)
 case atStart=>exact⟨0,none,none,0,rfl,by omega,rfl,rfl,hs⟩
 case round =>
  clear hs
  rename World=>w
  obtain⟨i,r,B,c',rfl,hi,rfl,rfl,hs⟩:=hrel
  by_cases hlt:i<n
  ·have hlt':(i:Int)<(n:Int):=by omega
   have h8:(0:Int)<=8*(i:Int):=by omega
   have h8n:=Lib.hid (show(8*(i:Int)).toNat=8*i by omega)
   have ST:=Lib.hid (show(numL v (i+1)).map v8=(numL v i).map v8++[v8 ((v>>>(8*i)).setWidth 8)] by rw[numL_snoc];simp)
   go_wp2_with (first|((with_reducible refine Se.iL 16 ?_);(refine Se.toL rfl (Se.bsv (o:=⟨some 16,_,_,_,_,_⟩) hs rfl Tryz.underlying24 u8i rfl ([.int .u8 _]) (by rfl) (by rfl) (by decide) (by decide) (by simp[Value.oneCell']) ?_);clear hs;rintro w g16-hs))|((with_reducible refine Se.iL 17 ?_);(refine Se.toL rfl (Se.ap (o:=⟨some 17,_,_,_,_,_⟩) 1 hs rfl rfl rfl rfl (Reads.blk 0 rfl) Tryz.underlying24 u8i3 rfl (by decide) (by simp[Value.oneCell']) (rfl) (by omega) (by omega) ?_);clear hs;rintro w r' B' c'' hs;try simp only[pS] at hs)))
   go_roundg (n-(i+1))
   case measure=>omega
   case rel=>exact⟨i+1,r',B',c'',rfl,by omega,by go_num,rfl,by rw[ST.out,<-h8n.out];exact hs.drop⟩
  ·obtain rfl:i=n:=by omega
   go_wp2_with fail
   go_ret;exact⟨r,B,c',rfl,hs⟩
end
theorem eql_nil(A:Option Addr)(n c:Nat)(w:World):(binOp .eql 24 (.slice A n c) (.slice none 0 0)).run Tryz.prog w=.ok (.bool A.isNone) w:=Lib.run_eql_slice_nil w _ _ A n c 0 0 Tryz.underlying24
section
attribute [local go_sem] eql_nil
theorem clone_st(hs:St w0 X L w){A:Option Addr}{n c:Nat}{bs:List (BitVec 8)}(hr:Reads L A (bs.map v8))(hn:n=bs.length)(hle:n<=70368744177664) :
  Calls Tryz.prog 66 #[.slice A n c] w fun e w'=>∃ r B c',e=.returned (.slice B n c')/\St w0 X (.own 1 r B n c' (bs.map v8)::L) w':=by
 cases A with
 | none =>
  have h0:bs.map v8=[]:=by
   rcases hr w hs.hold with h|⟨_,_,h,_⟩
   ·exact h
   ·cases h
  have HN:=Lib.hid (show n=0 by rw[hn];simpa using h0)
  have H0:=Lib.hid h0
  clear hn h0 hle;replace hs:=hs.nil_own 1 none
  go_enter Tryz.func66,Tryz.ntmps66
  go_wp2_with fail
  go_ret;rw[H0.out,HN.out];exact⟨none,none,0,rfl,hs⟩
 | some ad =>
  have HN:=Lib.hid hn
  clear hn
  go_enter Tryz.func66,Tryz.ntmps66
  go_wp2_with (first|((with_reducible refine Se.iL 5 ?_);(refine Se.toL rfl (Se.bs0 (o:=⟨some 5,_,_,_,_,_⟩) hs rfl Tryz.underlying24 (by kernel_rfl) ?_);clear hs;rintro w g5-hs;replace hs:=hs.blk_own 1 0 0 (by simp) (Nat.le_refl _) (by decide);simp only[Nat.zero_mul,List.take_zero] at hs))|((with_reducible refine Se.iL 7 ?_);(refine Se.toL rfl (Se.ap (o:=⟨some 7,_,_,_,_,_⟩) 0 hs rfl rfl rfl rfl (hr.mono (by intro _ h;simp only[List.mem_cons,h,or_true])) Tryz.underlying24 u8i3 rfl (by decide) (v8_one _) (by rw[List.length_map,HN.out,Nat.mul_one]) (by omega) (by omega) ?_);clear hs;rintro w r B c' hs;try simp only[pS] at hs)))
  go_ret;exact⟨r,B,c',rfl,by simpa using hs⟩
end
theorem grow_st(hs:St w0 X L w)(n:Nat)(hle:n<=70368744177664) :
  Calls Tryz.prog 165 #[.slice none 0 0,.int .i64 n] w fun e w'=>∃ r B c',e=.returned (.slice B 0 c')/\St w0 X (.own 1 r B 0 c' []::L) w':=by
 replace hs:=hs.nil_own 1 none
 have h1:¬ ((n:Int)<0):=by omega
 rcases Nat.eq_zero_or_pos n with rfl|hp
 ·go_enter Tryz.func165,Tryz.ntmps165
  go_wp2_with fail
  go_ret;exact⟨none,none,0,rfl,hs⟩
 ·have h2:(0:Int)<(n:Int):=by omega
  go_enter Tryz.func165,Tryz.ntmps165
  go_wp2_with (first|(refine Se.toL rfl (Se.apn (o:=⟨some 22,_,_,_,_,_⟩) 0 hs rfl rfl rfl rfl rfl Tryz.underlying24 Tryz.underlying3 u8i3 rfl rfl (by omega) ?_);clear hs;rintro w r B c' hs;simp only[List.set_cons_zero] at hs))
  go_ret;exact⟨r,B,c',rfl,by simpa using hs.own_take 0 (Nat.zero_le _)⟩
def flat(l:List Pt):List (BitVec 8):=l.flatMap Pt.bs
theorem flat_snoc(l:List Pt)(i:Nat)(h:i<l.length):flat (l.take (i+1))=flat (l.take i)++l[i].bs:=by
 unfold flat;rw[List.take_succ_eq_append_getElem h,List.flatMap_append];simp
theorem flat_le(l:List Pt)(i:Nat):(flat (l.take i)).length<=(flat l).length:=by
 have:flat l=flat (l.take i)++flat (l.drop i):=by unfold flat;rw[<-List.flatMap_append,List.take_append_drop]
 rw[this,List.length_append];omega
theorem concat_st(hs:St w0 X L w)(l:List Pt){S:Option Addr}{k cap:Nat}(hk:k=l.length)(hS:Reads L S (l.map Pt.v))(hp:∀ p∈l,Reads L p.A (p.bs.map v8))(hle:(flat l).length<=70368744177664)(hkl:k<=1000) :
  Calls Tryz.prog 133 #[.slice S k cap] w fun e w'=>∃ r B c',e=.returned (.slice B (flat l).length c')/\St w0 X (.own 1 r B (flat l).length c' ((flat l).map v8)::L) w':=by
 have HK:=Lib.hid hk
 have HP:=Lib.hid hp
 obtain⟨F,hF⟩:∃ F:Nat->List (BitVec 8),F=fun i=>flat (l.take i):=⟨_,rfl⟩
 have HF:=Lib.hid hF
 have F0:=Lib.hid (show F 0=[] by rw[hF];simp[flat])
 have FK:=Lib.hid (show F k=flat l by rw[hF,hk];simp)
 have FL:=Lib.hid (show ∀ i,(F i).length<=70368744177664 by intro i;rw[hF];exact Nat.le_trans (flat_le l i) hle)
 have FS:=Lib.hid (show ∀ i (h:i<l.length),F (i+1)=F i++l[i].bs by intro i h;rw[hF];exact flat_snoc l i h)
 clear hk hp hF hle
 go_enter Tryz.func133,Tryz.ntmps133
 go_wp2_with fail
 go_loopg [3,11] k (fun gh s3 s11 wr=>∃ (i:Nat),gh=k-i/\i<=k/\s11=.int .i64 i/\s3=.int .i64 ((F i).length:Int)/\St w0 X L wr)
 case atStart=>exact⟨0,rfl,by omega,rfl,by rw[F0.out];rfl,hs⟩
 case round =>
  clear hs
  rename World=>w
  obtain⟨i,rfl,hi,rfl,rfl,hs⟩:=hrel
  by_cases hlt:i<k
  ·have hlt':(i:Int)<(k:Int):=by omega
   have hil:i<l.length:=by have:=HK.out;omega
   obtain⟨p,hpe⟩:∃ p,p=l[i]:=⟨_,rfl⟩
   have hb:(l.map Pt.v)[i]? = some (.slice p.A p.bs.length p.c):=by rw[hpe];simp[hil];rfl
   have FS1:=FS.out i hil
   have FL1:=FL.out (i+1)
   rw[<-hpe] at FS1;rw[FS1,List.length_append] at FL1
   obtain⟨a,ha⟩:∃ a,a=(F i).length:=⟨_,rfl⟩
   obtain⟨b,hbl⟩:∃ b,b=p.bs.length:=⟨_,rfl⟩
   rw[<-ha,<-hbl] at FL1
   have FL2:(F (i+1)).length=a+b:=by rw[FS1,List.length_append,ha,hbl]
   have hneg:¬ ((a:Int)+(b:Int)<0):=by omega
   rw[<-hbl] at hb
   obtain⟨g,off,rfl⟩:∃ g off,S=some ⟨g,off,none⟩:=by
    obtain⟨g,off,h,_⟩:=(hS w hs.hold).cells (by intro e;rw[e] at hb;simp at hb)
    exact⟨g,off,h⟩
   have HB:=Lib.hid hb
   have FL2:=Lib.hid FL2
   rw[<-ha];clear hb FS1 ha hbl hpe hil
   go_wp2_with (first|((with_reducible refine Se.iL 14 ?_);(refine Se.Ld hs rfl rfl (hS.cell i HB.out) ?_)))
   go_roundg (k-(i+1))
   case measure=>omega
   case rel=>exact⟨i+1,rfl,by omega,by go_num,by rw[FL2.out];go_num,hs⟩
  ·obtain rfl:i=k:=by omega
   have FKL:=FL.out i
   obtain⟨q,hq⟩:∃ q,q=(F i).length:=⟨_,rfl⟩
   rw[<-hq];rw[<-hq] at FKL
   have HQ:=Lib.hid (show q=(flat l).length by rw[hq,FK.out])
   clear hq
   go_wp2_with (first|(go_at_call 165;refine Calls.mono (grow_st hs q FKL) ?_;clear hs;rintro e w ⟨r,B,c',rfl,hs⟩))
   go_loopg [6,27] i (fun gh s6 s27 wr=>∃ (j:Nat) (r:Option Nat) (B:Option Addr) (c' m:Nat),gh=i-j/\j<=i/\s27=.int .i64 j/\s6=.slice B m c'/\Hid (m=(F j).length)/\St w0 X (.own 1 r B m c' ((F j).map v8)::L) wr)
   case atStart=>exact⟨0,r,B,c',0,rfl,by omega,rfl,rfl,Lib.hid (by rw[F0.out];rfl),by rw[F0.out];exact hs⟩
   case round =>
    clear hs
    rename World=>w
    obtain⟨j,r,B,c',m,rfl,hj,rfl,rfl,HM,hs⟩:=hrel
    by_cases hlt:j<i
    ·have hlt':(j:Int)<(i:Int):=by omega
     have hil:j<l.length:=by have:=HK.out;omega
     obtain⟨p,hpe⟩:∃ p,p=l[j]:=⟨_,rfl⟩
     have hb:(l.map Pt.v)[j]? = some (.slice p.A p.bs.length p.c):=by rw[hpe];simp[hil];rfl
     have hrp:=Lib.hid (HP.out p (by rw[hpe];exact List.getElem_mem hil))
     have FS1:=FS.out j hil
     have FL1:=FL.out (j+1)
     rw[<-hpe] at FS1;rw[FS1,List.length_append,<-HM.out] at FL1
     have FM:Hid (m+p.bs.length=(F (j+1)).length):=Lib.hid (by rw[FS1,List.length_append,HM.out])
     obtain⟨g,off,rfl⟩:∃ g off,S=some ⟨g,off,none⟩:=by
      obtain⟨g,off,h,_⟩:=(hS w (fun a ha=>hs.hold a (List.mem_cons_of_mem _ ha))).cells (by intro e;rw[e] at hb;simp at hb)
      exact⟨g,off,h⟩
     have HB:=Lib.hid hb
     have FS1:=Lib.hid FS1
     clear hb hpe hil
     go_wp2_with (first|((with_reducible refine Se.iL 30 ?_);(refine Se.Ld hs rfl rfl ((hS.cons _).cell j HB.out) ?_))|((with_reducible refine Se.iL 33 ?_);(refine Se.toL rfl (Se.ap (o:=⟨some 33,_,_,_,_,_⟩) 0 hs rfl rfl rfl rfl (hrp.out.cons _) Tryz.underlying24 u8i3 rfl (by decide) (v8_one _) (by rw[List.length_map,Nat.mul_one]) (by omega) (by omega) ?_);clear hs;rintro w r' B' c'' hs;try simp only[pS] at hs)))
     go_roundg (i-(j+1))
     case measure=>omega
     case rel=>exact⟨j+1,r',B',c'',m+p.bs.length,rfl,by omega,by go_num,rfl,FM,by rw[FS1.out,List.map_append];exact hs⟩
    ·obtain rfl:j=i:=by omega
     go_wp2_with fail
     go_ret;rw[FK.out] at hs;rw[<-FK.out,<-HM.out];exact⟨r,B,c',rfl,by rw[FK.out];exact hs⟩
end Pd
end Go.Proofs.YtjnllcnknjlmmaaGreat
namespace Go.Proofs.YtjnllcnknjlmmaaGreat
open Go Go.RowKit
namespace Pd
open Se (St At Reads)
open Li (v8 v8_one Rd)
open Bv (n8 n32)
variable {w0 w:World} {X:List Nat} {L:List At}
attribute [local irreducible] Calls
theorem Rd_cell{w:World}{A:Option Addr}{xs:List Value}(h:Rd w A xs)(i:Nat){v:Value}(hv:xs[i]? = some v):∃ g off,A=some ⟨g,off,none⟩/\w.cell? ⟨g,off+i,none⟩=some v:=by
 have hi:=(List.getElem?_eq_some_iff.1 hv).1
 obtain⟨g,off,hA,_,hc⟩:=h.cells (by intro e;rw[e] at hi;simp at hi)
 exact⟨g,off,hA,(hc i hi).trans hv⟩
theorem v8_at(bs:List (BitVec 8))(i:Nat)(h:i<bs.length):(bs.map v8)[i]? = some (.int .u8 (n8 (bs.getD i 0#8))):=by simp[h]
section
attribute [local go_sem] Bv.of_n32 Bv.wrap_n32_of Bv.of32_n8
attribute [local go_sem ↓] Bv.shl_n32 Bv.or_n32
theorem value_any(w:World)(bs:List (BitVec 8))(n c:Nat)(hn:n=bs.length)(h4:n<=4){A:Option Addr}(hr:Rd w A (bs.map v8)) :
  Calls Tryz.prog 221 #[.slice A n c] w fun e w'=>e=.returned (.int .u32 (n32 (w32 bs)))/\w'=w:=by
 have HN:=Lib.hid hn
 have HR:=Lib.hid hr
 clear hn hr
 go_enter Tryz.func221,Tryz.ntmps221
 go_wp2
 go_loop [2,3,4,7] (fun s2 _ _ s7=>∃ i:Nat,i<=n/\s7=.int .i64 i/\s2=.int .u32 (n32 (w32 (bs.take i)))) (fun _ _ _ i=>n-(intOf i).toNat)
 case atStart=>exact⟨0,by omega,rfl,rfl⟩
 case round =>
  obtain⟨i,hi,rfl,rfl⟩:=hrel
  by_cases hlt:i<n
  ·have hlt':(i:Int)<(n:Int):=by omega
   have h8:(0:Int)<=8*(i:Int):=by omega
   have hil:i<bs.length:=by have:=HN.out;omega
   obtain⟨x,hx⟩:∃ x,x=bs.getD i 0#8:=⟨_,rfl⟩
   obtain⟨g,off,rfl,hc⟩:=Rd_cell HR.out i (v8_at bs i hil)
   rw[<-hx] at hc
   have ST:w32 (bs.take (i+1))=w32 (bs.take i)|||(x.setWidth 32 <<< (8*i)):=by
    rw[List.take_succ_eq_append_getElem hil,w32_snoc _ _ (by simp;omega),hx]
    congr 2
    ·simp[hil]
    ·simp;omega
   have ST:=Lib.hid ST
   clear hx hil
   go_wp2
   go_round
   case rel=>exact⟨i+1,by omega,by go_num,by rw[ST.out]⟩
   case measure=>simp[intOf];omega
  ·go_wp2
   go_ret
   obtain rfl:i=n:=by omega
   rw[List.take_of_length_le (by rw[<-HN.out];exact Nat.le_refl _)];exact⟨rfl,rfl⟩
end
theorem concat_st'(hs:St w0 X L w)(l:List Pt){S:Option Addr}{k cap:Nat}(hk:k=l.length)(hS:Reads L S (l.map Pt.v))(hp:∀ p∈l,Reads L p.A (p.bs.map v8)){bs:List (BitVec 8)}(hb:flat l=bs){q:Nat}(hq:q=bs.length)(hle:q<=70368744177664)(hkl:k<=1000) :
  Calls Tryz.prog 133 #[.slice S k cap] w fun e w'=>∃ r B c',e=.returned (.slice B q c')/\St w0 X (.own 1 r B q c' (bs.map v8)::L) w':=by
 subst hb hq;exact concat_st hs l hk hS hp hle hkl
theorem fields_st(hs:St w0 X L w)(m:Nat)(l:List Pt){S:Option Addr}{k cap:Nat}(hk:k=l.length)(hS:Reads L S (l.map Pt.v))(hp:∀ p∈l,Reads L p.A (p.bs.map v8))(hle:(flat l).length<=m)(hm:m<=70368744177664)(hkl:k<=1000) :
  Calls Tryz.prog 137 #[.int .i64 m,.slice S k cap] w fun e w'=>∃ r B c',e=.returned (.slice B m c')/\St w0 X (.own 1 r B m c' ((flat l++zs (m-(flat l).length)).map v8)::L) w':=by
 have HK:=Lib.hid hk
 have HS:=Lib.hid hS
 have HP:=Lib.hid hp
 obtain⟨bs,hb⟩:∃ bs,bs=flat l:=⟨_,rfl⟩
 obtain⟨q,hq⟩:∃ q,q=bs.length:=⟨_,rfl⟩
 rw[<-hb,<-hq] at hle;rw[<-hb,<-hq]
 have HB:=Lib.hid hb
 have HQ:=Lib.hid hq
 have hw:=IntWalk.i64_in ((m:Int)-(q:Int)) (by omega)
 clear hk hS hp hb hq
 go_enter Tryz.func137,Tryz.ntmps137
 go_wp2_with (first|((with_reducible refine Se.iL 13 ?_);(refine Se.toL rfl (Se.apn (o:=⟨some 13,_,_,_,_,_⟩) 0 (m:=(m-q)) hs rfl rfl rfl (by first|rfl|omega|(go_num;done)) rfl Tryz.underlying24 Tryz.underlying3 Pd.u8i3 rfl rfl (by omega) ?_);clear hs;rintro w r B c hs;try simp only[pS] at hs))|(go_at_call 133;refine Calls.mono (concat_st' hs l HK.out HS.out HP.out HB.out.symm HQ.out (by omega) hkl) ?_;clear hs;rintro e w ⟨r,B,c,rfl,hs⟩))
 go_ret
 have e:q+(m-q)=m:=by omega
 rw[e] at hs;refine⟨r,B,c,by rw[<-e];rfl,?_⟩
 have e2:(bs++zs (m-q)).map v8=bs.map v8++List.replicate (m-q) (.int .u8 0):=by rw[List.map_append,List.map_replicate];rfl
 rw[e2];exact hs
end Pd
end Go.Proofs.YtjnllcnknjlmmaaGreat
namespace Go.Proofs.YtjnllcnknjlmmaaGreat
open Go Go.RowKit
namespace Pd
open Se (St At Reads)
open Li (v8 v8_one Rd)
open Bv (n8 n32)
variable {w0 w:World} {X:List Nat} {L:List At}
attribute [local irreducible] Calls
theorem take_eq_succ{xs ys:List (BitVec 8)}{i:Nat}(hx:i<xs.length)(hy:i<ys.length)(h:xs.take i=ys.take i)(e:xs[i]=ys[i]):xs.take (i+1)=ys.take (i+1):=by
 rw[List.take_succ_eq_append_getElem hx,List.take_succ_eq_append_getElem hy,h,e]
theorem equal_st(hs:St w0 X L w){xs ys:List (BitVec 8)}{A B:Option Addr}{n m c d:Nat}(hn:n=xs.length)(hm:m=ys.length)(hA:Reads L A (xs.map v8))(hB:Reads L B (ys.map v8))(hle:n<=70368744177664){b:Bool}(hb:(xs==ys)=b) :
  Calls Tryz.prog 220 #[.slice A n c,.slice B m d] w fun e w'=>e=.returned (.bool b)/\St w0 X L w':=by
 have HN:=Lib.hid hn
 have HM:=Lib.hid hm
 have HA:=Lib.hid hA
 have HB:=Lib.hid hB
 have HE:=Lib.hid hb
 by_cases hnm:n=m
 ·subst hnm
  have hne:((n:Int) != (n:Int))=false:=by simp
  clear hn hm hA hB hb
  go_enter Tryz.func220,Tryz.ntmps220
  go_wp2_with fail
  go_loopg [13] n (fun gh s13 wr=>∃ i:Nat,gh=n-i/\i<=n/\s13=.int .i64 i/\Hid (xs.take i=ys.take i)/\St w0 X L wr)
  case atStart=>exact⟨0,rfl,by omega,rfl,Lib.hid (by simp),hs⟩
  case round =>
   clear hs
   rename World=>w
   obtain⟨i,rfl,hi,rfl,HT,hs⟩:=hrel
   by_cases hlt:i<n
   ·have hlt':(i:Int)<(n:Int):=by omega
    have hx:i<xs.length:=by have:=HN.out;omega
    have hy:i<ys.length:=by have:=HM.out;omega
    obtain⟨ga,oa,rfl,hca⟩:=Rd_cell (HA.out w hs.hold) i (v8_at xs i hx)
    obtain⟨gb,ob,rfl,hcb⟩:=Rd_cell (HB.out w hs.hold) i (v8_at ys i hy)
    obtain⟨x,hxe⟩:∃ x,x=xs.getD i 0#8:=⟨_,rfl⟩
    obtain⟨y,hye⟩:∃ y,y=ys.getD i 0#8:=⟨_,rfl⟩
    rw[<-hxe] at hca;rw[<-hye] at hcb
    have ex:xs[i]=x:=by rw[hxe];simp[hx]
    have ey:ys[i]=y:=by rw[hye];simp[hy]
    by_cases hxy:x=y
    ·subst hxy
     have hv:(n8 x != n8 x)=false:=by simp
     have HT2:=Lib.hid (take_eq_succ hx hy HT.out (ex.trans ey.symm))
     clear hx hy ex ey hxe hye
     go_wp2_with fail
     go_quiet (fail)
     replace hs:=hs.drewN nq;generalize w.drewN nq=w at hs ⊢
     go_wp2_with fail
     go_roundg (n-(i+1))
     case measure=>omega
     case rel=>exact⟨i+1,rfl,by omega,by go_num,HT2,hs⟩
    ·have hv:(n8 x != n8 y)=true:=by simp[Bv.n8_eq_iff,hxy]
     have hE2:b=false:=by
      rw[<-HE.out]
      apply beq_eq_false_iff_ne.2
      intro e;subst e;exact hxy (ex.symm.trans ey)
     clear hx hy ex ey hxe hye hxy;subst hE2
     go_wp2_with fail
     go_quiet (fail)
     replace hs:=hs.drewN nq;generalize w.drewN nq=w at hs ⊢
     go_wp2_with fail
     go_ret;exact⟨rfl,hs⟩
   ·obtain rfl:i=n:=by omega
    have hE2:b=true:=by
     rw[<-HE.out]
     have:=HT.out
     rw[List.take_of_length_le (by rw[<-HN.out];exact Nat.le_refl _),List.take_of_length_le (by rw[<-HM.out];exact Nat.le_refl _)] at this;rw[this];simp
    subst hE2
    go_wp2_with fail
    go_ret;exact⟨rfl,hs⟩
 ·have hne:((n:Int) != (m:Int))=true:=by simp;omega
  have hE2:b=false:=by
   rw[<-hb]
   apply beq_eq_false_iff_ne.2
   intro e;subst e;exact hnm (hn.trans hm.symm)
  subst hE2;clear hn hm hA hB hb hnm
  go_enter Tryz.func220,Tryz.ntmps220
  go_wp2_with fail
  go_ret;exact⟨rfl,hs⟩
theorem zeros1_any(x:BitVec 8)(w:World):Calls Tryz.prog 232 #[.int .u8 (n8 x)] w fun e w'=>e=.returned (.bool (n8 x != 0))/\w'=w:=by
 go_enter Tryz.func232,Tryz.ntmps232
 go_wp2
 go_ret;exact⟨rfl,rfl⟩
theorem n8_ne(x:BitVec 8):(n8 x != 0) = !(x==0#8):=by
 have:=Bv.n8_beq x 0#8
 rw[<-this];rfl
theorem indexFunc_st(hs:St w0 X L w){bs:List (BitVec 8)}{A:Option Addr}{n c:Nat}(hn:n=bs.length)(hA:Reads L A (bs.map v8))(hle:n<=70368744177664) :
  Calls Tryz.prog 231 #[.slice A n c,.func (.func 232) #[] #[]] w fun e w'=>∃ z:Int,e=.returned (.int .i64 z)/\decide (0<=z) = !(zeros bs)/\St w0 X L w':=by
 have HN:=Lib.hid hn
 have HA:=Lib.hid hA
 clear hn hA
 go_enter Tryz.func231,Tryz.ntmps231
 go_wp2_with fail
 go_loopg [8] n (fun gh s8 wr=>∃ i:Nat,gh=n-i/\i<=n/\s8=.int .i64 i/\Hid (zeros (bs.take i)=true)/\St w0 X L wr)
 case atStart=>exact⟨0,rfl,by omega,rfl,Lib.hid rfl,hs⟩
 case round =>
  clear hs
  rename World=>w
  obtain⟨i,rfl,hi,rfl,HT,hs⟩:=hrel
  by_cases hlt:i<n
  ·have hlt':(i:Int)<(n:Int):=by omega
   have hx:i<bs.length:=by have:=HN.out;omega
   obtain⟨ga,oa,rfl,hca⟩:=Rd_cell (HA.out w hs.hold) i (v8_at bs i hx)
   obtain⟨x,hxe⟩:∃ x,x=bs.getD i 0#8:=⟨_,rfl⟩
   rw[<-hxe] at hca
   have ex:bs[i]=x:=by rw[hxe];simp[hx]
   by_cases h0:x=0#8
   ·have hv:(n8 x != 0)=false:=by rw[n8_ne,h0];rfl
    have HT2:Hid (zeros (bs.take (i+1))=true):=Lib.hid (by rw[List.take_succ_eq_append_getElem hx];have:=HT.out;unfold zeros at this ⊢;rw[List.all_append,this,ex,h0];rfl)
    clear hx ex hxe h0
    go_wp2_with (first|(go_at_call 232;refine Calls.mono (zeros1_any x _) ?_;rintro e w' ⟨rfl,rfl⟩))
    go_roundg (n-(i+1))
    case measure=>omega
    case rel=>exact⟨i+1,rfl,by omega,by go_num,HT2,hs⟩
   ·have hv:(n8 x != 0)=true:=by rw[n8_ne];simpa using h0
    have HZ:zeros bs=false:=by
     unfold zeros;rw[<-Bool.not_eq_true,List.all_eq_true];intro h
     have:=h bs[i] (List.getElem_mem hx)
     rw[ex] at this;exact h0 (by simpa using this)
    clear hx ex hxe h0
    go_wp2_with (first|(go_at_call 232;refine Calls.mono (zeros1_any x _) ?_;rintro e w' ⟨rfl,rfl⟩))
    go_ret;exact⟨i,rfl,by rw[HZ];simp,hs⟩
  ·obtain rfl:i=n:=by omega
   have HZ:zeros bs=true:=by have:=HT.out;rwa [List.take_of_length_le (by rw[<-HN.out];exact Nat.le_refl _)] at this
   go_wp2_with fail
   go_ret;exact⟨-1,rfl,by rw[HZ];rfl,hs⟩
theorem containsFunc_st(hs:St w0 X L w){bs:List (BitVec 8)}{A:Option Addr}{n c:Nat}(hn:n=bs.length)(hA:Reads L A (bs.map v8))(hle:n<=70368744177664) :
  Calls Tryz.prog 218 #[.slice A n c,.func (.func 232) #[] #[]] w fun e w'=>e=.returned (.bool (!(zeros bs)))/\St w0 X L w':=by
 obtain⟨b,hb⟩:∃ b,b=zeros bs:=⟨_,rfl⟩
 have C:=Lib.hid (indexFunc_st hs (c:=c) hn hA hle)
 rw[<-hb] at C ⊢;clear hn hA hb
 go_enter Tryz.func218,Tryz.ntmps218
 go_wp2_with (first|(go_at_call 231;refine Calls.mono (C.out) ?_;clear hs;rintro e w ⟨z,rfl,hz,hs⟩))
 go_ret;exact⟨by rw[<-hz];rfl,hs⟩
theorem zeros_st(hs:St w0 X L w){bs:List (BitVec 8)}{A:Option Addr}{n c:Nat}(hn:n=bs.length)(hA:Reads L A (bs.map v8))(hle:n<=70368744177664){b:Bool}(hb:zeros bs=b) :
  Calls Tryz.prog 229 #[.slice A n c] w fun e w'=>e=.returned (.bool b)/\St w0 X L w':=by
 have C:=Lib.hid (containsFunc_st hs (c:=c) hn hA hle)
 rw[hb] at C;clear hn hA hb
 go_enter Tryz.func229,Tryz.ntmps229
 go_wp2_with (first|(go_at_call 218;refine Calls.mono (C.out) ?_;clear hs;rintro e w ⟨rfl,hs⟩))
 go_ret;exact⟨by simp,hs⟩
end Pd
end Go.Proofs.YtjnllcnknjlmmaaGreat
namespace Go.Proofs.YtjnllcnknjlmmaaGreat
open Go Go.RowKit
namespace Pd
open Se (St At Reads)
open Li (v8 Rd rowOf)
open Bv (n8 n32)
variable {w0 w:World} {X:List Nat} {L:List At}
attribute [local irreducible] Calls
theorem crcN_succ:∀ (n:Nat) (s:BitVec 32),crcN (n+1) s=crc1 (crcN n s)
 | 0,_=>rfl
 | n+1,s=>by rw[crcN,crcN_succ n];rfl
abbrev v32(x:BitVec 32):Value:=.int .u32 (n32 x)
section
attribute [local go_sem ↓] Bv.xor_n32 Bv.and_n32 Bv.mul_n32 Bv.shr_n32
attribute [local go_sem] Bv.of_n32
theorem right_any(x:BitVec 32)(w:World):Calls Tryz.prog 224 #[v32 x] w fun e w'=>e=.returned (v32 (crcN 8 x))/\w'=w:=by
 go_enter Tryz.func224,Tryz.ntmps224
 go_wp2
 go_loop [0,3] (fun s0 s3=>∃ k:Nat,k<=8/\s3=.int .i64 k/\s0=v32 (crcN k x)) (fun _ i=>8-(intOf i).toNat)
 case atStart=>exact⟨0,by omega,rfl,rfl⟩
 case round =>
  obtain⟨k,hk,rfl,rfl⟩:=hrel
  by_cases hlt:k<8
  ·have hlt':(k:Int)<8:=by omega
   have ST:=Lib.hid ((crcN_succ k x).trans (crc1_mul _).symm)
   go_wp2
   go_round
   case rel=>exact⟨k+1,by omega,by go_num,by rw[ST.out];rfl⟩
   case measure=>simp[intOf];omega
  ·go_wp2
   go_ret
   obtain rfl:k=8:=by omega
   exact⟨rfl,rfl⟩
end
section
attribute [local go_sem] Bv.wrap_n32_of
theorem table1_any(b:Nat)(hb:b<256)(w:World):Calls Tryz.prog 223 #[.int .i64 b] w fun e w'=>e=.returned (v32 (crcN 8 (BitVec.ofNat 32 b)))/\w'=w:=by
 have C:=Lib.hid (right_any (BitVec.ofNat 32 b))
 go_enter Tryz.func223,Tryz.ntmps223
 go_wp2_with (first|(go_at_call 224;refine Calls.mono (C.out _) ?_;rintro e w' ⟨rfl,rfl⟩))
 go_ret;exact⟨rfl,rfl⟩
end
def crcT(n:Nat):List Value:=(List.range n).map fun b=>v32 (crcN 8 (BitVec.ofNat 32 b))
theorem crcT_length(n:Nat):(crcT n).length=n:=by simp[crcT]
theorem crcT_succ(n:Nat):crcT (n+1)=crcT n++[v32 (crcN 8 (BitVec.ofNat 32 n))]:=by simp[crcT,List.range_succ]
theorem zeroT:(Tryz.prog.info? 279).bind (fun i=>i.zero.map (·.cells.toList))=some (rowOf (.int .u32 0) 256 (crcT 0)):=by kernel_rfl
theorem table_st(hs:St w0 X L w){T:List Value}(hT:T=crcT 256):Calls Tryz.prog 222 #[.func (.func 223) #[] #[]] w fun e w'=>e=.returned (.agg T.toArray)/\St w0 X L w':=by
 obtain⟨R,hR⟩:∃ R:Nat->List Value,R=fun k=>rowOf (.int .u32 0) 256 (crcT k):=⟨_,rfl⟩
 have Z:=Lib.hid (show(Tryz.prog.info? 279).bind (fun i=>i.zero.map (·.cells.toList))=some (R 0) by rw[hR];exact zeroT)
 have RL:=Lib.hid (show ∀ k,k<=256->(R k).length=256 by intro k hk;rw[hR];exact Li.rowOf_length _ _ _ (by rw[crcT_length];exact hk))
 have RS:=Lib.hid (show ∀ k,k<256->(R k).set k (v32 (crcN 8 (BitVec.ofNat 32 k)))=R (k+1) by
  intro k hk;rw[hR];have:=Li.rowOf_set (.int .u32 0) 256 (crcT k) (by rw[crcT_length];exact hk) (v32 (crcN 8 (BitVec.ofNat 32 k)));rw[crcT_length,<-crcT_succ] at this;exact this)
 have RE:=Lib.hid (show R 256=T by rw[hR,hT];exact Li.rowOf_full _ _ _ (crcT_length 256))
 have TO:=Lib.hid (show ∀ v∈T,v.oneCell'=true by rw[hT];intro v hv;obtain⟨_,_,rfl⟩:=List.mem_map.1 hv;rfl)
 have TL:=Lib.hid (show T.length=256 by rw[hT,crcT_length])
 clear hR hT
 go_enter Tryz.func222,Tryz.ntmps222
 go_upto_region 2 with (first|((with_reducible refine Se.iL 2 ?_);(refine Se.Al hs rfl (Z.out) ?_;clear hs;rintro w g2-hs)))
 go_loopg [4] 256 (fun gh s4 wr=>∃ k:Nat,gh=256-k/\k<=256/\s4=.int .i64 k/\St w0 X (.blk g2 279 (R k)::L) wr)
 case atStart=>exact⟨0,rfl,by omega,rfl,hs⟩
 case round =>
  clear hs
  rename World=>w
  obtain⟨k,rfl,hk,rfl,hs⟩:=hrel
  by_cases hlt:k<256
  ·have hlt':(k:Int)<256:=by omega
   have C:=Lib.hid (fun w=>table1_any k hlt w)
   have LE:=Lib.hid (show k<(R k).length by rw[RL.out k hk];exact hlt)
   obtain⟨y,hy⟩:∃ y,y=crcN 8 (BitVec.ofNat 32 k):=⟨_,rfl⟩
   have RS1:=Lib.hid (RS.out k hlt)
   rw[<-hy] at C RS1;clear hy
   go_wp2_with (first|((with_reducible refine Se.iN ?_);(refine Se.So 0 hs rfl rfl rfl (LE.out) ?_;clear hs;intro w hs;try simp only[pS] at hs))|(go_at_call 223;refine Calls.mono (C.out _) ?_;rintro e w' ⟨rfl,rfl⟩))
   rw[RS1.out] at hs
   go_roundg (256-(k+1))
   case measure=>omega
   case rel=>exact⟨k+1,rfl,by omega,by go_num,hs⟩
  ·obtain rfl:k=256:=by omega
   rw[RE.out] at hs
   go_wp2_with (first|((with_reducible refine Se.iL 13 ?_);(refine Se.Ldw hs rfl rfl (Reads.blk 0 rfl) (by rw[TL.out];kernel_rfl) ?_))|((with_reducible refine Se.iN ?_);(refine Se.Sow 0 hs rfl rfl rfl rfl (TO.out) (by rw[TL.out];kernel_rfl) (rfl) ?_;clear hs;intro w hs;try simp only[pS] at hs)))
   refine Li.bodyPost_blk (by rfl) (by rfl) (hs.hold (.blk g2 279 T) (by simp)) Tryz.underlying279 rfl (by rw[TL.out];kernel_rfl) rfl ⟨rfl,?_⟩;exact hs.drop
end Pd
end Go.Proofs.YtjnllcnknjlmmaaGreat
namespace Go.Proofs.YtjnllcnknjlmmaaGreat
open Go Go.RowKit
namespace Pd
open Se (St At Reads)
open Li (v8 Rd rowOf)
open Bv (n8 n32)
variable {w0 w:World} {X:List Nat} {L:List At}
attribute [local irreducible] Calls
theorem crcU_append(s:BitVec 32)(a b:List (BitVec 8)):crcU s (a++b)=crcU (crcU s a) b:=by unfold crcU;rw[List.foldl_append]
theorem crcU_snoc(s:BitVec 32)(bs:List (BitVec 8))(i:Nat)(h:i<bs.length):crcU s (bs.take (i+1))=crcB (crcU s (bs.take i)) bs[i]:=by
 rw[List.take_succ_eq_append_getElem h,crcU_append];rfl
section
attribute [local go_sem ↓] Bv.xor_n32 Bv.xor_n8 Bv.shr_n32
attribute [local go_sem] Bv.of_n32 Bv.of_n8 Bv.wrap_n8_of Bv.of8_n32
theorem table2_any(s:BitVec 32)(b:BitVec 8)(g:Nat)(w:World)(hc:∀ i,i<256->w.cell? ⟨g,i,none⟩=some (v32 (crcN 8 (BitVec.ofNat 32 i)))):Calls Tryz.prog 226 #[v32 s,.int .u8 (n8 b),.pointer (some ⟨g,0,none⟩)] w fun e w'=>e=.returned (v32 (crcB s b))/\w'=w:=by
 have ST:=Lib.hid (crcB_table s b)
 obtain⟨y,hy⟩:∃ y,y=s.setWidth 8^^^b:=⟨_,rfl⟩
 have h1:0<=n8 y:=Bv.n8_lo y
 have h2:n8 y<256:=Bv.n8_hi y
 have e1:BitVec.ofNat 32 y.toNat=y.setWidth 32:=by
  apply BitVec.eq_of_toNat_eq;simp
 have hcy:=hc y.toNat y.isLt
 rw[e1] at hcy
 have e2:(n8 y).toNat=y.toNat:=by unfold n8;simp
 rw[<-e2] at hcy;rw[hy] at h1 h2 hcy;clear hc e1 e2 hy
 go_enter Tryz.func226,Tryz.ntmps226
 go_wp2
 go_ret;exact⟨by rw[<-ST.out];rfl,rfl⟩
end
theorem updated_st(hs:St w0 X L w)(s:BitVec 32)(l:List Pt){S:Option Addr}{k cap:Nat}(hk:k=l.length)(hS:Reads L S (l.map Pt.v))(hp:∀ p∈l,Reads L p.A (p.bs.map v8))(hle:∀ p∈l,p.bs.length<=70368744177664)(hkl:k<=1000){T:Nat}(hT:Reads L (some ⟨T,0,none⟩) (crcT 256)){s':BitVec 32}(hs':crcU s (flat l)=s') :
  Calls Tryz.prog 225 #[v32 s,.slice S k cap,.func (.func 226) #[] #[.pointer (some ⟨T,0,none⟩)]] w fun e w'=>e=.returned (v32 s')/\St w0 X L w':=by
 have HK:=Lib.hid hk
 have HS:=Lib.hid hS
 have HP:=Lib.hid hp
 have HL:=Lib.hid hle
 have HT:=Lib.hid (show ∀ w,St w0 X L w->∀ i,i<256->w.cell? ⟨T,i,none⟩=some (v32 (crcN 8 (BitVec.ofNat 32 i))) by
  intro w hw i hi;refine hT.cell0 i ?_ w hw.hold;simp[crcT,hi])
 obtain⟨F,hF⟩:∃ F:Nat->BitVec 32,F=fun i=>crcU s (flat (l.take i)):=⟨_,rfl⟩
 have F0:=Lib.hid (show F 0=s by rw[hF];rfl)
 have FK:=Lib.hid (show F k=s' by rw[hF,hk];simp[hs'])
 have FS:=Lib.hid (show ∀ i (h:i<l.length),F (i+1)=crcU (F i) l[i].bs by intro i h;rw[hF];simp only[flat_snoc l i h,crcU_append])
 clear hk hS hp hF hle hT hs'
 go_enter Tryz.func225,Tryz.ntmps225
 go_wp2_with fail
 go_loopg [0,13] k (fun gh s0 s13 wr=>∃ (i:Nat),gh=k-i/\i<=k/\s13=.int .i64 i/\s0=v32 (F i)/\St w0 X L wr)
 case atStart=>exact⟨0,rfl,by omega,rfl,by rw[F0.out],hs⟩
 case round =>
  clear hs
  rename World=>w
  obtain⟨i,rfl,hi,rfl,rfl,hs⟩:=hrel
  by_cases hlt:i<k
  ·have hlt':(i:Int)<(k:Int):=by omega
   have hil:i<l.length:=by have:=HK.out;omega
   obtain⟨p,hpe⟩:∃ p,p=l[i]:=⟨_,rfl⟩
   have hb:(l.map Pt.v)[i]? = some (.slice p.A p.bs.length p.c):=by rw[hpe];simp[hil];rfl
   have hpl:p∈l:=by rw[hpe];exact List.getElem_mem hil
   have FS1:=FS.out i hil
   rw[<-hpe] at FS1
   have hpA:=HP.out p hpl
   have hpL:=HL.out p hpl
   obtain⟨A,c,bs⟩:=p
   obtain⟨f,hf⟩:∃ f,f=F i:=⟨_,rfl⟩
   rw[<-hf] at FS1 ⊢
   obtain⟨n,hn⟩:∃ n,n=bs.length:=⟨_,rfl⟩
   rw[<-hn] at hb hpL
   obtain⟨g,off,rfl,hcS⟩:=Rd_cell (HS.out w hs.hold) i hb
   have HN:=Lib.hid hn
   have HA:=Lib.hid hpA
   have FS1:=Lib.hid FS1
   clear hb hpe hil hpl hpA hf hn
   go_wp2_with fail
   go_loopg [0,19] n (fun gh s0 s19 wr=>∃ (j:Nat),gh=n-j/\j<=n/\s19=.int .i64 j/\s0=v32 (crcU f (bs.take j))/\St w0 X L wr)
   case atStart=>exact⟨0,rfl,by omega,rfl,rfl,hs⟩
   case round =>
    clear hs hcS
    rename World=>w
    obtain⟨j,rfl,hj,rfl,rfl,hs⟩:=hrel
    by_cases hlj:j<n
    ·have hlj':(j:Int)<(n:Int):=by omega
     have hjl:j<bs.length:=by have:=HN.out;omega
     obtain⟨x,hx⟩:∃ x,x=bs.getD j 0#8:=⟨_,rfl⟩
     have hcb:=v8_at bs j hjl
     rw[<-hx] at hcb
     obtain⟨ga,oa,rfl,hca⟩:=Rd_cell (HA.out w hs.hold) j hcb
     have ST:=Lib.hid (crcU_snoc f bs j hjl)
     have ex:bs[j]=x:=by rw[hx];simp[hjl]
     rw[ex] at ST
     have C:=Lib.hid (table2_any (crcU f (bs.take j)) x T w (HT.out w hs))
     obtain⟨y,hy⟩:∃ y,y=crcU f (bs.take j):=⟨_,rfl⟩
     rw[<-hy] at ST C ⊢;clear hx hcb ex hy hjl
     go_wp2_with (first|(go_at_call 226;refine Calls.mono (C.out) ?_;rintro e w' ⟨rfl,rfl⟩))
     go_roundg (n-(j+1))
     case measure=>omega
     case rel=>exact⟨j+1,rfl,by omega,by go_num,by rw[ST.out],hs⟩
    ·obtain rfl:j=n:=by omega
     have e:crcU f (bs.take j)=F (i+1):=by rw[FS1.out,HN.out,List.take_length]
     rw[e]
     go_wp2_with fail
     go_roundg (k-(i+1))
     case measure=>omega
     case rel=>exact⟨i+1,rfl,by omega,by go_num,rfl,hs⟩
  ·obtain rfl:i=k:=by omega
   rw[FK.out]
   go_wp2_with fail
   go_ret;exact⟨rfl,hs⟩
theorem zeroT0:∃ Z,(Tryz.prog.info? 279).bind (fun i=>i.zero.map (·.cells.toList))=some Z/\Z.length=256:=⟨_,zeroT,by simp[Li.rowOf_length,crcT]⟩
theorem update32_st(hs:St w0 X L w)(s:BitVec 32)(l:List Pt){S:Option Addr}{k cap:Nat}(hk:k=l.length)(hS:Reads L S (l.map Pt.v))(hp:∀ p∈l,Reads L p.A (p.bs.map v8))(hle:∀ p∈l,p.bs.length<=70368744177664)(hkl:k<=1000){s':BitVec 32}(hs':crcU s (flat l)=s') :
  Calls Tryz.prog 205 #[v32 s,.slice S k cap] w fun e w'=>e=.returned (v32 s')/\St w0 X L w':=by
 have HK:=Lib.hid hk
 have HS:=Lib.hid hS
 have HP:=Lib.hid hp
 have HL:=Lib.hid hle
 have HE:=Lib.hid hs'
 obtain⟨T,hT⟩:∃ T,T=crcT 256:=⟨_,rfl⟩
 have TT:=Lib.hid hT
 have TO:=Lib.hid (show ∀ v∈T,v.oneCell'=true by rw[hT];intro v hv;obtain⟨_,_,rfl⟩:=List.mem_map.1 hv;rfl)
 have TL:=Lib.hid (show T.length=256 by rw[hT,crcT_length])
 obtain⟨Z,hZ,hZL⟩:=zeroT0
 have HZ:=Lib.hid hZ
 have ZL:=Lib.hid hZL
 clear hk hS hp hle hs' hT hZ hZL
 go_enter Tryz.func205,Tryz.ntmps205
 go_wp2_with (first|((with_reducible refine Se.iL 5 ?_);(refine Se.Al hs rfl (HZ.out) ?_;clear hs;rintro w g5-hs))|((with_reducible refine Se.iN ?_);(refine Se.Sow 0 hs rfl rfl rfl rfl (TO.out) (by rw[TL.out];kernel_rfl) (by rw[TL.out,ZL.out]) ?_;clear hs;intro w hs;try simp only[pS] at hs))|(go_at_call 222;refine Calls.mono (table_st hs TT.out) ?_;clear hs;rintro e w ⟨rfl,hs⟩)|(go_at_call 225;refine Calls.mono (updated_st hs s l HK.out (HS.out.cons _) (fun p hp=>(HP.out p hp).cons _) HL.out hkl (TT.out ▸ Reads.blk 0 rfl) HE.out) ?_;clear hs;rintro e w ⟨rfl,hs⟩))
 go_ret;exact⟨rfl,hs.drop⟩
end Pd
end Go.Proofs.YtjnllcnknjlmmaaGreat
namespace Go.Proofs.YtjnllcnknjlmmaaGreat
open Go Go.RowKit
namespace Pd
open Se (St At Reads)
open Li (v8 Rd rowOf)
open Bv (n8 n32)
variable {w0 w:World} {X:List Nat} {L:List At}
attribute [local irreducible] Calls
theorem bits_x32(a b:Int):bits .xor .u32 a b=n32 (BitVec.ofInt 32 a^^^BitVec.ofInt 32 b):=by
 have h:=congrArg (fun m=>m.run Tryz.prog default) (Bv.xor_n32 a b)
 simp[Op.intBits] at h;exact h
theorem not_n32(y:BitVec 32):bits .xor .u32 IntKind.u32.max (n32 y)=n32 (~~~y):=by
 rw[bits_x32,Bv.of_n32];rw[show BitVec.ofInt 32 IntKind.u32.max=BitVec.allOnes 32 by decide,BitVec.allOnes_xor]
theorem odd_n32(u:BitVec 32):((n32 u).tmod 2==1)=u.getLsbD 0:=by
 have e:(n32 u).tmod 2=((u.toNat%2:Nat):Int):=by
  unfold n32;rw[Int.tmod_eq_emod_of_nonneg (by omega)];omega
 rw[e,BitVec.getLsbD,Nat.testBit_zero]
 rcases Nat.mod_two_eq_zero_or_one u.toNat with h|h <;> rw[h] <;> rfl
theorem half_n32(u:BitVec 32):BitVec.ofInt 32 ((n32 u).tdiv 2)=u>>>1:=by
 have e:(n32 u).tdiv 2=((u.toNat / 2:Nat):Int):=by
  unfold n32;rw[Int.tdiv_eq_ediv_of_nonneg (by omega)];omega
 rw[e]
 apply BitVec.eq_of_toNat_eq
 have:=u.isLt
 simp[Nat.shiftRight_eq_div_pow];omega
theorem sum32_st(hs:St w0 X L w)(l:List Pt){S:Option Addr}{k cap:Nat}(hk:k=l.length)(hS:Reads L S (l.map Pt.v))(hp:∀ p∈l,Reads L p.A (p.bs.map v8))(hle:∀ p∈l,p.bs.length<=70368744177664)(hkl:k<=1000){s':BitVec 32}(hs':crc (flat l)=s') :
  Calls Tryz.prog 166 #[.slice S k cap] w fun e w'=>e=.returned (v32 s')/\St w0 X L w':=by
 obtain⟨y,hy⟩:∃ y,y=crcU 0xFFFFFFFF#32 (flat l):=⟨_,rfl⟩
 have C:=Lib.hid (update32_st hs 0xFFFFFFFF#32 l (cap:=cap) hk hS hp hle hkl hy.symm)
 have E:=Lib.hid (show ~~~y=s' by rw[hy];exact hs')
 clear hk hS hp hle hs' hy
 go_enter Tryz.func166,Tryz.ntmps166
 go_wp2_with (first|(go_at_call 205;refine Calls.mono (C.out) ?_;clear hs;rintro e w ⟨rfl,hs⟩))
 go_ret;refine⟨?_,hs⟩;rw[<-E.out]
 show Ending.returned (.int .u32 _)=_
 rw[not_n32]
section
attribute [local go_sem ↓] Bv.xor_n32
attribute [local go_sem] Bv.of_n32 Bv.wrap_n32_of Bv.of32_n8
theorem rupdate_any(w:World)(s:BitVec 32)(bs:List (BitVec 8)){A:Option Addr}{n c:Nat}(hn:n=bs.length)(hA:Rd w A (bs.map v8))(hle:n<=70368744177664) :
  Calls Tryz.prog 114 #[v32 s,.slice A n c] w fun e w'=>e=.returned (v32 (crcU s bs))/\w'=w:=by
 have HN:=Lib.hid hn
 have HA:=Lib.hid hA
 clear hn hA
 go_enter Tryz.func114,Tryz.ntmps114
 go_wp2
 go_loopg [0,5] n (fun gh s0 s5 wr=>∃ (i:Nat),gh=n-i/\i<=n/\s5=.int .i64 i/\s0=v32 (crcU s (bs.take i))/\wr=w)
 case atStart=>exact⟨0,rfl,by omega,rfl,rfl,rfl⟩
 case round =>
  obtain⟨i,rfl,hi,rfl,rfl,rfl⟩:=hrel
  by_cases hlt:i<n
  ·have hlt':(i:Int)<(n:Int):=by omega
   have hil:i<bs.length:=by have:=HN.out;omega
   obtain⟨x,hx⟩:∃ x,x=bs.getD i 0#8:=⟨_,rfl⟩
   have hcb:=v8_at bs i hil
   rw[<-hx] at hcb
   obtain⟨ga,oa,rfl,hca⟩:=Rd_cell HA.out i hcb
   have ST:=Lib.hid (crcU_snoc s bs i hil)
   have ex:bs[i]=x:=by rw[hx];simp[hil]
   rw[ex] at ST
   obtain⟨y,hy⟩:∃ y,y=crcU s (bs.take i):=⟨_,rfl⟩
   rw[<-hy] at ST ⊢;clear hx hcb ex hy hil
   go_wp2
   obtain⟨z,hz⟩:∃ z,z=y^^^x.setWidth 32:=⟨_,rfl⟩
   rw[<-hz]
   go_loopg [0,6] 8 (fun gh s0 s6 wr'=>∃ (j:Nat),gh=8-j/\j<=8/\s6=.int .i64 j/\s0=v32 (crcN j z)/\wr'=wr)
   case atStart=>exact⟨0,rfl,by omega,rfl,rfl,rfl⟩
   case round =>
    obtain⟨j,rfl,hj,rfl,rfl,rfl⟩:=hrel
    by_cases hlj:j<8
    ·have hlj':(j:Int)<8:=by omega
     obtain⟨u,hu⟩:∃ u,u=crcN j z:=⟨_,rfl⟩
     have ST2:=Lib.hid (crcN_succ j z)
     rw[<-hu] at ST2 ⊢;clear hu
     have hodd:=odd_n32 u
     have HH:=Lib.hid (half_n32 u)
     cases hb:u.getLsbD 0 with
     | true =>
      rw[hb] at hodd
      have ST3:Hid (crcN (j+1) z=(u>>>1)^^^2197175160#32):=Lib.hid (by rw[ST2.out];unfold crc1;rw[if_pos hb];rfl)
      clear hb
      go_wp2
      go_roundg (8-(j+1))
      case measure=>omega
      case rel=>exact⟨j+1,rfl,by omega,by go_num,by rw[ST3.out,<-HH.out],rfl⟩
     | false =>
      rw[hb] at hodd
      have ST3:Hid (crcN (j+1) z=(u>>>1)):=Lib.hid (by rw[ST2.out];unfold crc1;rw[if_neg (by rw[hb];simp)];simp)
      clear hb
      go_wp2
      go_roundg (8-(j+1))
      case measure=>omega
      case rel=>exact⟨j+1,rfl,by omega,by go_num,by rw[ST3.out,<-HH.out],rfl⟩
    ·obtain rfl:j=8:=by omega
     have e:crcN 8 z=crcU s (bs.take (i+1)):=by rw[ST.out,hz];rfl
     rw[e]
     go_wp2_with fail
     go_roundg (n-(i+1))
     case measure=>omega
     case rel=>exact⟨i+1,rfl,by omega,by go_num,rfl,rfl⟩
  ·obtain rfl:i=n:=by omega
   have e:crcU s (bs.take i)=crcU s bs:=by rw[HN.out,List.take_length]
   rw[e]
   go_wp2
   go_ret;exact⟨rfl,rfl⟩
end
theorem crc_st(hs:St w0 X L w){bs:List (BitVec 8)}{A:Option Addr}{n c:Nat}(hn:n=bs.length)(hA:Reads L A (bs.map v8))(hle:n<=70368744177664){s':BitVec 32}(hs':crc bs=s') :
  Calls Tryz.prog 136 #[.slice A n c] w fun e w'=>e=.returned (v32 s')/\St w0 X L w':=by
 have HA:=Lib.hid hA
 have HL:=Lib.hid (show ∀ p∈[(⟨A,c,bs⟩:Pt)],p.bs.length<=70368744177664 by intro p hp;rw[List.mem_singleton.1 hp];show bs.length<=_;omega)
 have HE:=Lib.hid (show crc (flat [(⟨A,c,bs⟩:Pt)])=s' by simp[flat,hs'])
 subst hn;clear hA hle hs'
 go_enter Tryz.func136,Tryz.ntmps136
 go_wp2_with (first|((with_reducible refine Se.iL 4 ?_);(refine Se.toL rfl (Se.bsv (o:=⟨some 4,_,_,_,_,_⟩) hs rfl Tryz.underlying203 bysi rfl ([.slice A _ c]) (by rfl) (by rfl) (by decide) (by decide) (by simp[Value.oneCell']) ?_);clear hs;rintro w g4-hs))|(go_at_call 166;refine Calls.mono (sum32_st hs [⟨A,c,bs⟩] rfl (Reads.blk 0 rfl) (fun p hp=>by rw[List.mem_singleton.1 hp];exact HA.out.cons _) HL.out (by simp) HE.out) ?_;clear hs;rintro e w ⟨rfl,hs⟩))
 go_ret;exact⟨rfl,hs.drop⟩
theorem rcrc_any(w:World)(bs:List (BitVec 8)){A:Option Addr}{n c:Nat}(hn:n=bs.length)(hA:Rd w A (bs.map v8))(hle:n<=70368744177664) :
  Calls Tryz.prog 83 #[.slice A n c] w fun e w'=>e=.returned (v32 (crc bs))/\w'=w:=by
 have C:=Lib.hid (rupdate_any w 0xFFFFFFFF#32 bs (c:=c) hn hA hle)
 have E:=Lib.hid (show n32 (BitVec.ofInt 32 4294967295^^^crcU 0xFFFFFFFF#32 bs)=n32 (crc bs) by
  unfold crc;rw[show BitVec.ofInt 32 4294967295=BitVec.allOnes 32 by decide,BitVec.allOnes_xor])
 obtain⟨y,hy⟩:∃ y,y=crcU 0xFFFFFFFF#32 bs:=⟨_,rfl⟩
 rw[<-hy] at C E;clear hn hA hy
 go_enter Tryz.func83,Tryz.ntmps83
 go_wp2_with (first|(go_at_call 114;refine Calls.mono (C.out) ?_;rintro e w' ⟨rfl,rfl⟩))
 go_ret;refine⟨?_,rfl⟩
 show Ending.returned (.int .u32 _)=.returned (.int .u32 _)
 rw[<-E.out,bits_x32,Bv.of_n32]
theorem rcrc_st(hs:St w0 X L w)(bs:List (BitVec 8)){A:Option Addr}{n c:Nat}(hn:n=bs.length)(hA:Reads L A (bs.map v8))(hle:n<=70368744177664) :
  Calls Tryz.prog 83 #[.slice A n c] w fun e w'=>e=.returned (.int .u32 (n32 (crc bs)))/\St w0 X L w' :=
 (rcrc_any w bs hn (hA w hs.hold) hle).mono fun e w' h=>⟨h.1,by rw[h.2];exact hs⟩
end Pd
end Go.Proofs.YtjnllcnknjlmmaaGreat
