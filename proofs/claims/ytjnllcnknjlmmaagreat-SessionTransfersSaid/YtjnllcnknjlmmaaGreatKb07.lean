/- Layer 41. -/
import Derived.SizedLaws
import Derived.Test.YtjnllcnknjlmmaaGreatKb06
set_option linter.unusedSimpArgs false
set_option linter.unusedVariables false
set_option maxRecDepth 100000
set_option maxHeartbeats 4000000
namespace Go.Proofs.YtjnllcnknjlmmaaGreat
open Go Go.RowKit
namespace Pd
theorem w16_numL(v:BitVec 16):w16 (numL (v.setWidth 32) 2)=v:=by
 unfold w16 numL;rw[bigL_numN]
 apply BitVec.eq_of_toNat_eq
 have:=v.isLt
 simp;omega
theorem numL_inj{a b:BitVec 32}(h:numL a 4=numL b 4):a=b:=by rw[<-w32_numL a,h,w32_numL]
theorem numL2_inj{a b:BitVec 16}(h:numL (a.setWidth 32) 2=numL (b.setWidth 32) 2):a=b:=by rw[<-w16_numL a,h,w16_numL]
theorem only_of{p:PDU}(hv:valid p=true):only p=true/\own p=true:=by
 unfold valid at hv;simp only[Bool.and_eq_true] at hv;exact⟨hv.1.2,hv.2⟩
theorem special_inj{p q:PDU}(hp:valid p=true)(hq:valid q=true)(hk:p.h.k=q.h.k)(hla:p.h.la=q.h.la)(hsu:p.h.su=q.h.su)(he:special p=special q):p.h=q.h/\p.en=q.en:=by
 obtain⟨op,wp⟩:=only_of hp
 obtain⟨oq,wq⟩:=only_of hq
 have hkp:hdr p.h.k.toNat≠0:=by have:=special_len p hp;omega
 obtain⟨⟨k,la,su,id,tg,of,ln,al,dg,mx,st,nf⟩,en,da⟩:=p
 obtain⟨⟨k',la',su',id',tg',of',ln',al',dg',mx',st',nf'⟩,en',da'⟩:=q
 dsimp only at hk hla hsu hkp
 subst hk hla hsu;clear hp hq
 have key:k.toNat=0\/k.toNat=1\/k.toNat=2\/k.toNat=3\/k.toNat=4\/k.toNat=5\/k.toNat=6\/k.toNat=7\/k.toNat=9:=by
  rcases kinds_cases k.toNat with h|h
  ·omega
  ·exact absurd (hdr_none _ h) hkp
 unfold special at he;unfold only at op oq
 dsimp only at he op oq
 generalize k.toNat=q at *
 have l4:∀ a:BitVec 32,(numL a 4).length=4:=fun a=>numL_length a 4
 have l2:∀ a:BitVec 32,(numL a 2).length=2:=fun a=>numL_length a 2
 rcases key with rfl|rfl|rfl|rfl|rfl|rfl|rfl|rfl|rfl
 all_goals simp[decide_eq_true_eq] at op oq
 all_goals (try dsimp only at he)
 ·obtain⟨h1,_⟩:=List.append_inj he (by simp[l4])
  simp at h1
  obtain⟨h2,h3,h4⟩:=h1
  have:=numL_inj h4
  simp_all
 ·obtain⟨h1,_⟩:=List.append_inj he (by simp[l4])
  simp at h1
  obtain⟨h2,h3,h4⟩:=h1
  have:=numL_inj h4
  simp_all
 iterate 2
  ·obtain⟨h1,_⟩:=List.append_inj he (by simp[l4,l2])
   obtain⟨h2,h3⟩:=List.append_inj h1 (by simp[l2])
   have:=numL_inj h3
   have:=numL2_inj h2
   simp_all
 iterate 2
  ·simp_all
 iterate 2
  ·obtain⟨h1,_⟩:=List.append_inj he (by simp[l4,l2])
   obtain⟨h1,h5⟩:=List.append_inj h1 (by simp[l4,l2])
   obtain⟨h1,h4⟩:=List.append_inj h1 (by simp[l4,l2])
   obtain⟨h2,h3⟩:=List.append_inj h1 (by simp[l4,l2])
   have:=numL_inj h4
   have:=numL2_inj h3
   have:=numL2_inj h2
   simp_all
 ·obtain⟨h1,_⟩:=List.append_inj he (by simp[l4,l2])
  obtain⟨h1,h5⟩:=List.append_inj h1 (by simp[l4,l2])
  obtain⟨h1,h4⟩:=List.append_inj h1 (by simp[l4,l2])
  obtain⟨h2,h3⟩:=List.append_inj h1 (by simp[l4,l2])
  have:=numL_inj h5
  have:=numL_inj h4
  have:=numL2_inj h3
  have:=numL2_inj h2
  simp_all
theorem sub_mid{a m c b:List (BitVec 8)}{i j:Nat}(hb:b=a++m++c)(hi:i=a.length)(hj:j=a.length+m.length):sub b i j=m:=by
 subst hb hi hj;unfold sub;rw[List.take_left' (by simp),List.drop_left' rfl]
theorem zeros_zs(n:Nat):zeros (zs n)=true:=by unfold zeros;simp
theorem bit_flags(p:PDU)(h d:Nat):bit (flagsN p h d) 0=decide (0<h)/\bit (flagsN p h d) 1=decide (0<d)/\bit (flagsN p h d) 2=p.h.la/\bit (flagsN p h d) 3=p.h.su:=by
 unfold flagsN bit;generalize p.h.la=la;generalize p.h.su=su
 by_cases h1:0<h <;> by_cases h2:0<d <;> cases la <;> cases su <;> simp[h1,h2]
theorem k_cases{p:PDU}(hv:valid p=true):p.h.k.toNat=0\/p.h.k.toNat=1\/p.h.k.toNat=2\/p.h.k.toNat=3\/p.h.k.toNat=4\/p.h.k.toNat=5\/p.h.k.toNat=6\/p.h.k.toNat=7\/p.h.k.toNat=9:=by
 have hkp:hdr p.h.k.toNat≠0:=by have:=special_len p hv;omega
 exact hdr_cases hkp
theorem hdr_ne{p:PDU}(hv:valid p=true):hdr p.h.k.toNat≠0:=by have:=special_len p hv;omega
theorem ofNat_toNat8(k:BitVec 8):BitVec.ofNat 8 k.toNat=k:=by simp
theorem rd_special{p:PDU}(hv:valid p=true){fl:Nat}(h2:bit fl 2=p.h.la)(h3:bit fl 3=p.h.su) :
  clr p.h.k.toNat (rdH p.h.k.toNat (special p) (hd0 p.h.k.toNat fl))=p.h/\rdE p.h.k.toNat (special p)=p.en/\zeros (rdR p.h.k.toNat (special p))=true/\(p.da.length<4294967296->lenB p.h.k.toNat (special p) p.da.length=true):=by
 obtain⟨op,wp⟩:=only_of hv
 have key:=k_cases hv
 clear hv
 obtain⟨⟨k,la,su,id,tg,of,ln,al,dg,mx,st,nf⟩,en,da⟩:=p
 dsimp only at h2 h3 key ⊢
 unfold only at op;unfold special
 dsimp only at op ⊢
 have hk8:=ofNat_toNat8 k
 unfold hd0;rw[h2,h3,hk8];clear h2 h3 wp;generalize k.toNat=q at *
 have l4:∀ a:BitVec 32,(numL a 4).length=4:=fun a=>numL_length a 4
 have l2:∀ a:BitVec 32,(numL a 2).length=2:=fun a=>numL_length a 2
 rcases key with rfl|rfl|rfl|rfl|rfl|rfl|rfl|rfl|rfl
 all_goals simp[decide_eq_true_eq] at op
 all_goals clear hk8
 ·obtain⟨⟨⟨rfl,rfl,rfl⟩,rfl,rfl,rfl,rfl⟩,rfl,rfl⟩:=op
  have e1:sub ([0#8,0#8,al,dg]++numL mx 4++zs 112) 4 8=numL mx 4:=sub_mid rfl (by simp) (by simp[l4])
  have e2:([0#8,0#8,al,dg]++numL mx 4++zs 112).drop 8=zs 112:=List.drop_left' (by simp[l4])
  refine⟨?_,rfl,?_,fun _=>rfl⟩
  ·show({ k:=k,al:=al,dg:=dg,mx:=w32 (sub ([0#8,0#8,al,dg]++numL mx 4++zs 112) 4 8) }:Hd)={ k:=k,al:=al,dg:=dg,mx:=mx }
   rw[e1,w32_numL]
  ·show zeros ([0#8,0#8]++([0#8,0#8,al,dg]++numL mx 4++zs 112).drop 8)=true
   rw[e2,zeros_append,zeros_zs];rfl
 ·obtain⟨⟨⟨rfl,rfl,rfl⟩,rfl,rfl,rfl,rfl⟩,rfl,rfl⟩:=op
  have e1:sub ([0#8,0#8,al,dg]++numL mx 4++zs 112) 4 8=numL mx 4:=sub_mid rfl (by simp) (by simp[l4])
  have e2:([0#8,0#8,al,dg]++numL mx 4++zs 112).drop 8=zs 112:=List.drop_left' (by simp[l4])
  refine⟨?_,rfl,?_,fun _=>rfl⟩
  ·show({ k:=k,al:=al,dg:=dg,mx:=w32 (sub ([0#8,0#8,al,dg]++numL mx 4++zs 112) 4 8) }:Hd)={ k:=k,al:=al,dg:=dg,mx:=mx }
   rw[e1,w32_numL]
  ·show zeros ([0#8,0#8]++([0#8,0#8,al,dg]++numL mx 4++zs 112).drop 8)=true
   rw[e2,zeros_append,zeros_zs];rfl
 ·obtain⟨⟨⟨rfl,rfl,rfl⟩,rfl,rfl,rfl,rfl⟩,rfl,rfl,rfl⟩:=op
  have e0:(numL (st.setWidth 32) 2++numL nf 4++zs 10).take 2=numL (st.setWidth 32) 2:=by rw[List.append_assoc];exact List.take_left' (l2 _)
  have e1:sub (numL (st.setWidth 32) 2++numL nf 4++zs 10) 2 6=numL nf 4:=sub_mid rfl (by simp[l2]) (by simp[l2,l4])
  have e2:(numL (st.setWidth 32) 2++numL nf 4++zs 10).drop 6=zs 10:=List.drop_left' (by simp[l4,l2])
  refine⟨?_,rfl,?_,fun _=>rfl⟩
  ·show({ k:=k,st:=w16 ((numL (st.setWidth 32) 2++numL nf 4++zs 10).take 2),nf:=w32 (sub (numL (st.setWidth 32) 2++numL nf 4++zs 10) 2 6) }:Hd)={ k:=k,st:=st,nf:=nf }
   rw[e0,e1,w32_numL,w16_numL]
  ·show zeros ((numL (st.setWidth 32) 2++numL nf 4++zs 10).drop 6)=true
   rw[e2,zeros_zs]
 ·obtain⟨⟨⟨rfl,rfl,rfl⟩,rfl,rfl,rfl,rfl⟩,rfl,rfl,rfl⟩:=op
  have e0:(numL (st.setWidth 32) 2++numL nf 4++zs 10).take 2=numL (st.setWidth 32) 2:=by rw[List.append_assoc];exact List.take_left' (l2 _)
  have e1:sub (numL (st.setWidth 32) 2++numL nf 4++zs 10) 2 6=numL nf 4:=sub_mid rfl (by simp[l2]) (by simp[l2,l4])
  have e2:(numL (st.setWidth 32) 2++numL nf 4++zs 10).drop 6=zs 10:=List.drop_left' (by simp[l4,l2])
  refine⟨?_,rfl,?_,fun _=>rfl⟩
  ·show({ k:=k,st:=w16 ((numL (st.setWidth 32) 2++numL nf 4++zs 10).take 2),nf:=w32 (sub (numL (st.setWidth 32) 2++numL nf 4++zs 10) 2 6) }:Hd)={ k:=k,st:=st,nf:=nf }
   rw[e0,e1,w32_numL,w16_numL]
  ·show zeros ((numL (st.setWidth 32) 2++numL nf 4++zs 10).drop 6)=true
   rw[e2,zeros_zs]
 ·obtain⟨⟨⟨rfl,rfl⟩,rfl,rfl,rfl,rfl⟩,⟨rfl,rfl,rfl⟩,rfl,rfl⟩:=op
  exact⟨rfl,rfl,rfl,fun _=>rfl⟩
 ·obtain⟨⟨⟨rfl,rfl⟩,rfl,rfl,rfl,rfl⟩,⟨rfl,rfl,rfl⟩,rfl,rfl⟩:=op
  exact⟨rfl,rfl,rfl,fun _=>rfl⟩
 ·obtain⟨⟨⟨rfl,rfl⟩,rfl⟩,⟨rfl,rfl,rfl⟩,rfl,rfl⟩:=op
  generalize hn:da.length=n
  have e0:(numL (id.setWidth 32) 2++numL (tg.setWidth 32) 2++numL of 4++numL (BitVec.ofNat 32 n) 4++zs 4).take 2=numL (id.setWidth 32) 2:=by simp only[List.append_assoc];exact List.take_left' (l2 _)
  have e1:sub (numL (id.setWidth 32) 2++numL (tg.setWidth 32) 2++numL of 4++numL (BitVec.ofNat 32 n) 4++zs 4) 2 4=numL (tg.setWidth 32) 2:=sub_mid (a:=numL (id.setWidth 32) 2) (c:=numL of 4++numL (BitVec.ofNat 32 n) 4++zs 4) (by simp only[List.append_assoc]) (by simp[l2]) (by simp[l2])
  have e2:sub (numL (id.setWidth 32) 2++numL (tg.setWidth 32) 2++numL of 4++numL (BitVec.ofNat 32 n) 4++zs 4) 4 8=numL of 4:=sub_mid (c:=numL (BitVec.ofNat 32 n) 4++zs 4) (a:=numL (id.setWidth 32) 2++numL (tg.setWidth 32) 2) (by simp only[List.append_assoc]) (by simp[l2]) (by simp[l2,l4])
  have e3:sub (numL (id.setWidth 32) 2++numL (tg.setWidth 32) 2++numL of 4++numL (BitVec.ofNat 32 n) 4++zs 4) 8 12=numL (BitVec.ofNat 32 n) 4:=sub_mid rfl (by simp[l2,l4]) (by simp[l2,l4])
  have e4:(numL (id.setWidth 32) 2++numL (tg.setWidth 32) 2++numL of 4++numL (BitVec.ofNat 32 n) 4++zs 4).drop 12=zs 4:=List.drop_left' (by simp[l4,l2])
  refine⟨?_,rfl,?_,fun h=>?_⟩
  ·show({ k:=k,la:=la,su:=false,id:=w16 ((numL (id.setWidth 32) 2++numL (tg.setWidth 32) 2++numL of 4++numL (BitVec.ofNat 32 n) 4++zs 4).take 2),tg:=w16 (sub (numL (id.setWidth 32) 2++numL (tg.setWidth 32) 2++numL of 4++numL (BitVec.ofNat 32 n) 4++zs 4) 2 4),of:=w32 (sub (numL (id.setWidth 32) 2++numL (tg.setWidth 32) 2++numL of 4++numL (BitVec.ofNat 32 n) 4++zs 4) 4 8),ln:=0#32 }:Hd)={ k:=k,la:=la,su:=false,id:=id,tg:=tg,of:=of }
   rw[e0,e1,e2,w32_numL,w16_numL,w16_numL]
  ·show zeros ((numL (id.setWidth 32) 2++numL (tg.setWidth 32) 2++numL of 4++numL (BitVec.ofNat 32 n) 4++zs 4).drop 12)=true
   rw[e4,zeros_zs]
  ·show(!true || decide ((w32 (sub (numL (id.setWidth 32) 2++numL (tg.setWidth 32) 2++numL of 4++numL (BitVec.ofNat 32 n) 4++zs 4) 8 12)).toNat=n))=true
   rw[e3,w32_numL,BitVec.toNat_ofNat,Nat.mod_eq_of_lt h];simp
 ·obtain⟨⟨⟨_,rfl⟩,rfl,rfl⟩,⟨rfl,rfl,rfl⟩,rfl,rfl⟩:=op
  generalize hn:da.length=n
  have e0:(numL (id.setWidth 32) 2++numL ((0#16).setWidth 32) 2++numL of 4++numL (BitVec.ofNat 32 n) 4++zs 4).take 2=numL (id.setWidth 32) 2:=by simp only[List.append_assoc];exact List.take_left' (l2 _)
  have e1:sub (numL (id.setWidth 32) 2++numL ((0#16).setWidth 32) 2++numL of 4++numL (BitVec.ofNat 32 n) 4++zs 4) 2 4=numL ((0#16).setWidth 32) 2:=sub_mid (a:=numL (id.setWidth 32) 2) (c:=numL of 4++numL (BitVec.ofNat 32 n) 4++zs 4) (by simp only[List.append_assoc]) (by simp[l2]) (by simp[l2])
  have e2:sub (numL (id.setWidth 32) 2++numL ((0#16).setWidth 32) 2++numL of 4++numL (BitVec.ofNat 32 n) 4++zs 4) 4 8=numL of 4:=sub_mid (c:=numL (BitVec.ofNat 32 n) 4++zs 4) (a:=numL (id.setWidth 32) 2++numL ((0#16).setWidth 32) 2) (by simp only[List.append_assoc]) (by simp[l2]) (by simp[l2,l4])
  have e3:sub (numL (id.setWidth 32) 2++numL ((0#16).setWidth 32) 2++numL of 4++numL (BitVec.ofNat 32 n) 4++zs 4) 8 12=numL (BitVec.ofNat 32 n) 4:=sub_mid rfl (by simp[l2,l4]) (by simp[l2,l4])
  have e4:(numL (id.setWidth 32) 2++numL ((0#16).setWidth 32) 2++numL of 4++numL (BitVec.ofNat 32 n) 4++zs 4).drop 12=zs 4:=List.drop_left' (by simp[l4,l2])
  refine⟨?_,rfl,?_,fun h=>?_⟩
  ·show({ k:=k,la:=la,su:=su,id:=w16 ((numL (id.setWidth 32) 2++numL ((0#16).setWidth 32) 2++numL of 4++numL (BitVec.ofNat 32 n) 4++zs 4).take 2),tg:=w16 (sub (numL (id.setWidth 32) 2++numL ((0#16).setWidth 32) 2++numL of 4++numL (BitVec.ofNat 32 n) 4++zs 4) 2 4),of:=w32 (sub (numL (id.setWidth 32) 2++numL ((0#16).setWidth 32) 2++numL of 4++numL (BitVec.ofNat 32 n) 4++zs 4) 4 8),ln:=0#32 }:Hd)={ k:=k,la:=la,su:=su,id:=id,tg:=0#16,of:=of }
   rw[e0,e1,e2,w32_numL,w16_numL,w16_numL]
  ·show zeros ((numL (id.setWidth 32) 2++numL ((0#16).setWidth 32) 2++numL of 4++numL (BitVec.ofNat 32 n) 4++zs 4).drop 12)=true
   rw[e4,zeros_zs]
  ·show(!true || decide ((w32 (sub (numL (id.setWidth 32) 2++numL ((0#16).setWidth 32) 2++numL of 4++numL (BitVec.ofNat 32 n) 4++zs 4) 8 12)).toNat=n))=true
   rw[e3,w32_numL,BitVec.toNat_ofNat,Nat.mod_eq_of_lt h];simp
 ·obtain⟨⟨rfl,rfl,rfl⟩,⟨rfl,rfl,rfl⟩,rfl,rfl⟩:=op
  have e0:(numL (id.setWidth 32) 2++numL (tg.setWidth 32) 2++numL of 4++numL ln 4++zs 4).take 2=numL (id.setWidth 32) 2:=by simp only[List.append_assoc];exact List.take_left' (l2 _)
  have e1:sub (numL (id.setWidth 32) 2++numL (tg.setWidth 32) 2++numL of 4++numL ln 4++zs 4) 2 4=numL (tg.setWidth 32) 2:=sub_mid (a:=numL (id.setWidth 32) 2) (c:=numL of 4++numL ln 4++zs 4) (by simp only[List.append_assoc]) (by simp[l2]) (by simp[l2])
  have e2:sub (numL (id.setWidth 32) 2++numL (tg.setWidth 32) 2++numL of 4++numL ln 4++zs 4) 4 8=numL of 4:=sub_mid (c:=numL ln 4++zs 4) (a:=numL (id.setWidth 32) 2++numL (tg.setWidth 32) 2) (by simp only[List.append_assoc]) (by simp[l2]) (by simp[l2,l4])
  have e3:sub (numL (id.setWidth 32) 2++numL (tg.setWidth 32) 2++numL of 4++numL ln 4++zs 4) 8 12=numL ln 4:=sub_mid rfl (by simp[l2,l4]) (by simp[l2,l4])
  have e4:(numL (id.setWidth 32) 2++numL (tg.setWidth 32) 2++numL of 4++numL ln 4++zs 4).drop 12=zs 4:=List.drop_left' (by simp[l4,l2])
  refine⟨?_,rfl,?_,fun _=>rfl⟩
  ·show({ k:=k,la:=false,su:=false,id:=w16 ((numL (id.setWidth 32) 2++numL (tg.setWidth 32) 2++numL of 4++numL ln 4++zs 4).take 2),tg:=w16 (sub (numL (id.setWidth 32) 2++numL (tg.setWidth 32) 2++numL of 4++numL ln 4++zs 4) 2 4),of:=w32 (sub (numL (id.setWidth 32) 2++numL (tg.setWidth 32) 2++numL of 4++numL ln 4++zs 4) 4 8),ln:=w32 (sub (numL (id.setWidth 32) 2++numL (tg.setWidth 32) 2++numL of 4++numL ln 4++zs 4) 8 12) }:Hd)={ k:=k,id:=id,tg:=tg,of:=of,ln:=ln }
   rw[e0,e1,e2,e3,w32_numL,w32_numL,w16_numL,w16_numL]
  ·show zeros ((numL (id.setWidth 32) 2++numL (tg.setWidth 32) 2++numL of 4++numL ln 4++zs 4).drop 12)=true
   rw[e4,zeros_zs]
theorem start_lt{k:Nat}{f:Fm}(hf:framed f=true)(hk:hdr k≠0):start k f<256:=by
 have h2:0<=f.al/\f.al<=31:=of_decide_eq_true hf
 have h1:start k f<=hdr k+hsum k f+unit k f-1:=by unfold start;exact Nat.div_mul_le_self _ _
 have h3:=hsum_or k f
 rcases hdr_cases hk with rfl|rfl|rfl|rfl|rfl|rfl|rfl|rfl|rfl <;> simp[unit,hdr] at h1 <;> (try simp[hsum] at h1) <;> (try split at h1) <;> omega
theorem most_le(k:Nat):most k<=1048576:=by unfold most;split <;> omega
theorem hdr_bd{k:Nat}(hk:hdr k≠0):24<=hdr k/\hdr k<=128:=by
 rcases hdr_cases hk with rfl|rfl|rfl|rfl|rfl|rfl|rfl|rfl|rfl <;> decide
theorem valid_parts{p:PDU}(hv:valid p=true):p.da.length<=most p.h.k.toNat:=by
 unfold valid at hv;simp only[Bool.and_eq_true,decide_eq_true_eq] at hv;exact hv.1.1.2
theorem toNat_ofNat8{n:Nat}(h:n<256):(BitVec.ofNat 8 n).toNat=n:=by rw[BitVec.toNat_ofNat];omega
theorem flagsN_lt16(p:PDU)(h d:Nat):flagsN p h d<16:=by unfold flagsN;split <;> split <;> split <;> split <;> omega
theorem only_flags{p:PDU}(hv:valid p=true):(p.h.la=true->p.h.k.toNat=6\/p.h.k.toNat=7)/\(p.h.su=true->p.h.k.toNat=7/\p.h.la=true)/\(p.h.k.toNat=6\/p.h.k.toNat=7->0<p.da.length):=by
 obtain⟨op,wp⟩:=only_of hv
 have key:=k_cases hv
 clear hv
 obtain⟨⟨k,la,su,id,tg,of,ln,al,dg,mx,st,nf⟩,en,da⟩:=p
 dsimp only at key ⊢
 unfold only at op;unfold own at wp
 dsimp only at op wp
 generalize k.toNat=q at *
 rcases key with rfl|rfl|rfl|rfl|rfl|rfl|rfl|rfl|rfl
 all_goals simp[decide_eq_true_eq] at op
 all_goals simp_all
 intro hsu
 rcases op.1.1.1 with h|h
 ·rw[h] at hsu;cases hsu
 ·exact h
theorem at_lt{p:PDU}{f:Fm}(hf:framed f=true)(hv:valid p=true):at' p f<256:=by
 unfold at'
 split
 ·exact start_lt hf (hdr_ne hv)
 ·decide
theorem size_lt{p:PDU}{f:Fm}(hf:framed f=true)(hv:valid p=true):size p f<2000000:=by
 have h1:=start_lt hf (hdr_ne hv)
 have h2:=hdr_bd (hdr_ne hv)
 have h3:=most_le p.h.k.toNat
 have h4:=valid_parts hv
 have h5:=hsum_or p.h.k.toNat f
 have h6:=dsum_or p.h.k.toNat f (decide (0<p.da.length))
 unfold size ds hs
 split <;> omega
theorem enc_get(p:PDU)(f:Fm):(enc p f).getD 0 0#8=p.h.k/\(enc p f).getD 1 0#8=BitVec.ofNat 8 (flagsN p (hs p f) (ds p f))/\(enc p f).getD 2 0#8=BitVec.ofNat 8 (hdr p.h.k.toNat)/\(enc p f).getD 3 0#8=BitVec.ofNat 8 (at' p f):=⟨rfl,rfl,rfl,rfl⟩
theorem enc_tot(p:PDU)(f:Fm):sub (enc p f) 4 8=numL (BitVec.ofNat 32 (size p f)) 4:=by
 refine sub_mid (a:=[p.h.k,BitVec.ofNat 8 (flagsN p (hs p f) (ds p f)),BitVec.ofNat 8 (hdr p.h.k.toNat),BitVec.ofNat 8 (at' p f)]) (c:=special p++(if 0<hs p f then numL (crc (head p f)) 4 else [])++zs (at' p f-(head2 p f).length)++p.da++(if 0<ds p f then numL (crc p.da) 4 else [])) ?_ rfl (by simp[numL_length]);unfold enc
 conv=>lhs;unfold head2
 conv=>lhs;unfold head
 simp only[List.append_assoc]
 rfl
theorem meas_enc{p:PDU}{f:Fm}(hf:framed f=true)(hv:valid p=true):meas (enc p f) f=(size p f,0):=by
 obtain⟨g0,g1,g2,g3⟩:=enc_get p f
 have hk:=hdr_ne hv
 have hbd:=hdr_bd hk
 have hst:=start_pos hf hk
 have hatl:=at_lt hf hv
 have hlen:=enc_len p f hf hv
 have hsz:=size_lt hf hv
 have hda:=valid_parts hv
 obtain⟨o1,o2,o3⟩:=only_flags hv
 obtain⟨b0,b1,b2,b3⟩:=bit_flags p (hs p f) (ds p f)
 have hsize:size p f=if 0<p.da.length then start p.h.k.toNat f+p.da.length+ds p f else hdr p.h.k.toNat+hs p f:=rfl
 have hat:at' p f=if 0<p.da.length then start p.h.k.toNat f else 0:=rfl
 have hdz:decide (0<at' p f)=decide (0<p.da.length):=by
  rw[hat]
  by_cases h:0<p.da.length
  ·rw[if_pos h];simp[h];omega
  ·rw[if_neg h];simp[h]
 unfold meas;rw[if_neg (by simp[hf]),if_neg (by rw[hlen];rw[hsize];split <;> omega)]
 dsimp only
 rw[g0,g1,g2,g3,enc_tot,bigL_numL,toNat_ofNat8 (flagsN_lt p _ _),toNat_ofNat8 (show hdr p.h.k.toNat<256 by omega),toNat_ofNat8 hatl,BitVec.toNat_ofNat,Nat.mod_eq_of_lt (show size p f<2 ^ 32 by omega)];rw[if_neg hk,b0,b1,b2,b3,hdz]
 have hfl:=flagsN_lt16 p (hs p f) (ds p f)
 have hds:ds p f=dsum p.h.k.toNat f (decide (0<p.da.length)):=rfl
 have hhs:hs p f=hsum p.h.k.toNat f:=rfl
 rw[if_neg ?_,if_neg ?_,<-hds,if_neg ?_]
 ·rintro(h|⟨h1,h2⟩|⟨h1,h2|h2⟩)
  ·exact h rfl
  ·rw[hat] at h1;rw[hsize] at h2
   by_cases h:0<p.da.length
   ·rw[if_pos h] at h1;omega
   ·rw[if_neg h,<-hhs] at h2;exact h2 rfl
  ·rw[hat] at h1 h2;rw[hsize] at h2
   by_cases h:0<p.da.length
   ·rw[if_pos h,if_pos h] at h2;omega
   ·rw[if_neg h] at h1;omega
  ·rw[hat] at h1 h2;rw[hsize] at h2
   by_cases h:0<p.da.length
   ·rw[if_pos h,if_pos h] at h2;omega
   ·rw[if_neg h] at h1;omega
 ·rintro(h|⟨h1,h2⟩|⟨h1,h2⟩|⟨h1,h2⟩)
  ·exact h rfl
  ·rw[hat] at h1 h2
   by_cases h:0<p.da.length
   ·rw[if_pos h] at h2;exact h2 rfl
   ·rw[if_neg h] at h1;exact h1 rfl
  ·rw[hat] at h1
   by_cases h:0<p.da.length
   ·omega
   ·rw[if_neg h] at h1;exact h1 rfl
  ·have:=o3 h2
   rw[hat,if_pos this] at h1;omega
 ·rintro(h|⟨h1,h2⟩|⟨h1,h2⟩|h|⟨h1,h2⟩)
  ·omega
  ·have:=o1 h1;omega
  ·have h3:=o2 h1
   rcases h2 with h2|h2
   ·omega
   ·rw[h3.2] at h2;cases h2
  ·exact h (by rw[hhs])
  ·have h3:0<ds p f:=of_decide_eq_true h1
   rw[hds] at h3;unfold dsum at h3
   split at h3
   ·rename_i h4
    rcases h2 with h2|h2
    ·omega
    ·rw[h4.2.1] at h2;cases h2.symm
   ·omega
theorem enc_parts{p:PDU}{f:Fm}(hf:framed f=true)(hv:valid p=true) :
  (enc p f).take (hdr p.h.k.toNat)=head p f/\sub (enc p f) 8 (hdr p.h.k.toNat)=special p /\
  (0<hs p f->sub (enc p f) (hdr p.h.k.toNat) (hdr p.h.k.toNat+hs p f)=numL (crc (head p f)) 4) /\
  (0<p.da.length->zeros (sub (enc p f) (hdr p.h.k.toNat+hs p f) (start p.h.k.toNat f))=true/\sub (enc p f) (start p.h.k.toNat f) (size p f-ds p f)=p.da) /\
  (0<ds p f->(enc p f).drop (size p f-ds p f)=numL (crc p.da) 4):=by
 have hhl:=head_len p f hv
 have hh2:=head2_len p f hv
 have hsl:=special_len p hv
 have e0:enc p f=head p f++((if 0<hs p f then numL (crc (head p f)) 4 else [])++(zs (at' p f-(head2 p f).length)++(p.da++(if 0<ds p f then numL (crc p.da) 4 else [])))):=by
  unfold enc;generalize zs (at' p f-(head2 p f).length)=z;unfold head2;simp only[List.append_assoc]
 have hds:0<ds p f->0<p.da.length:=by
  intro h;unfold ds dsum at h
  split at h
  ·rename_i h4;exact of_decide_eq_true h4.2.2
  ·omega
 have hds4:0<ds p f->ds p f=4:=fun h=>by have:=ds_eq p f;rw[if_pos h] at this;omega
 refine⟨?_,?_,?_,?_,?_⟩
 ·rw[e0];exact List.take_left' hhl
 ·have e1:head p f=([p.h.k,BitVec.ofNat 8 (flagsN p (hs p f) (ds p f)),BitVec.ofNat 8 (hdr p.h.k.toNat),BitVec.ofNat 8 (at' p f)]++numL (BitVec.ofNat 32 (size p f)) 4)++special p:=rfl
  obtain⟨R,hR⟩:∃ R,enc p f=head p f++R:=⟨_,e0⟩
  rw[hR];exact sub_mid (a:=[p.h.k,BitVec.ofNat 8 (flagsN p (hs p f) (ds p f)),BitVec.ofNat 8 (hdr p.h.k.toNat),BitVec.ofNat 8 (at' p f)]++numL (BitVec.ofNat 32 (size p f)) 4) (c:=R) (by rw[e1]) (by simp[numL_length]) (by simp[numL_length];omega)
 ·intro h
  have h4:hs p f=4:=by have:=hs_eq p f;rw[if_pos h] at this;omega
  rw[e0,if_pos h];refine sub_mid (by rw[List.append_assoc]) hhl.symm ?_;rw[hhl,numL_length,h4]
 ·intro h
  have hp:=pre_len p f hf hv h
  have hz:size p f-ds p f=start p.h.k.toNat f+p.da.length:=by
   unfold size;rw[if_pos h];omega
  constructor
  ·have:sub (enc p f) (hdr p.h.k.toNat+hs p f) (start p.h.k.toNat f)=zs (at' p f-(head2 p f).length):=by
    refine sub_mid (a:=head2 p f) (c:=p.da++(if 0<ds p f then numL (crc p.da) 4 else [])) ?_ hh2.symm ?_
    ·unfold enc;simp only[List.append_assoc]
    ·rw[<-hp,List.length_append]
   rw[this,zeros_zs]
  ·rw[hz]
   exact sub_mid (a:=head2 p f++zs (at' p f-(head2 p f).length)) rfl hp.symm (by rw[hp])
 ·intro h
  have h0:=hds h
  have hp:=pre_len p f hf hv h0
  have hz:size p f-ds p f=start p.h.k.toNat f+p.da.length:=by
   unfold size;rw[if_pos h0];omega
  rw[hz];unfold enc;rw[if_pos h];refine List.drop_left' ?_;rw[List.length_append,hp]
theorem dec_enc{p:PDU}{f:Fm}(hf:framed f=true)(hv:valid p=true):dec (enc p f) f=(p,0):=by
 have hm:=meas_enc hf hv
 obtain⟨g0,g1,g2,g3⟩:=enc_get p f
 have hlen:=enc_len p f hf hv
 have hk:=hdr_ne hv
 have hatl:=at_lt hf hv
 obtain⟨q1,q2,q3,q4,q5⟩:=enc_parts hf hv
 obtain⟨b0,b1,b2,b3⟩:=bit_flags p (hs p f) (ds p f)
 have hda:=valid_parts hv
 have hml:=most_le p.h.k.toNat
 obtain⟨r1,r2,r3,r4⟩:=rd_special hv b2 b3
 have hst:=start_pos hf hk
 have hbd:=hdr_bd hk
 have hat:at' p f=if 0<p.da.length then start p.h.k.toNat f else 0:=rfl
 have hdz:decide (0<at' p f)=decide (0<p.da.length):=by
  rw[hat]
  by_cases h:0<p.da.length
  ·rw[if_pos h];simp[h];omega
  ·rw[if_neg h];simp[h]
 have hds:dsum p.h.k.toNat f (decide (0<at' p f))=ds p f:=by rw[hdz];rfl
 have hhs:hsum p.h.k.toNat f=hs p f:=rfl
 have edat:dat (enc p f) f p.h.k.toNat (at' p f) (size p f)=p.da:=by
  unfold dat;rw[hds]
  by_cases h:0<p.da.length
  ·rw[if_pos (by rw[hat,if_pos h];omega),hat,if_pos h];exact(q4 h).2
  ·rw[if_neg (by rw[hat,if_neg h];omega)];exact(List.eq_nil_of_length_eq_zero (by omega)).symm
 have epdu:pdu (enc p f) f p.h.k.toNat (flagsN p (hs p f) (ds p f)) (at' p f) (size p f)=p:=by
  unfold pdu;rw[q2,r1,r2,edat]
 have ech:chainD (enc p f) f p.h.k.toNat (flagsN p (hs p f) (ds p f)) (at' p f) (size p f)=0:=by
  unfold chainD
  have x3:B3 (enc p f) f p.h.k.toNat=true:=by
   unfold B3;rw[hhs]
   by_cases h:0<hs p f
   ·rw[q3 h,q1,w32_numL];simp
   ·simp[show hs p f=0 by omega]
  have xr:zeros (rest (enc p f) f p.h.k.toNat (at' p f))=true:=by
   unfold rest;rw[zeros_append,q2,r3,hhs]
   by_cases h:0<p.da.length
   ·rw[if_pos (by rw[hat,if_pos h];omega),hat,if_pos h,(q4 h).1];rfl
   ·rw[if_neg (by rw[hat,if_neg h];omega)];rfl
  have x7:B7 (enc p f) f p.h.k.toNat (at' p f) (size p f)=true:=by
   unfold B7;rw[hds,edat]
   by_cases h:0<ds p f
   ·rw[q5 h,w32_numL];simp
   ·simp[show ds p f=0 by omega]
  rw[epdu,q2,edat,x3,xr,x7,r4 (by omega),hv]
  rfl
 rw[dec_eq hm,if_neg (by omega),if_neg (by omega),g0,g1,g3,toNat_ofNat8 (show flagsN p (hs p f) (ds p f)<256 by have:=flagsN_lt16 p (hs p f) (ds p f);omega),toNat_ofNat8 hatl,ech,if_pos rfl,epdu]
end Pd
end Go.Proofs.YtjnllcnknjlmmaaGreat
namespace Go.Proofs.YtjnllcnknjlmmaaGreat
open Go Go.RowKit
namespace Sn
open Pd (Fm PDU meas dec framed encE enc valid)
open Sr (Rc takeE nextE addE refE)
variable {s s':Rc}
theorem meas_pre{a x:List (BitVec 8)}{f:Fm}(h:8<=a.length):meas (a++x) f=meas a f:=by
 have g:∀ i,i<8->(a++x).getD i 0#8=a.getD i 0#8:=fun i hi=>by
  rw[List.getD_eq_getElem?_getD,List.getD_eq_getElem?_getD,List.getElem?_append_left (by omega)]
 have s:Pd.sub (a++x) 4 8=Pd.sub a 4 8:=by
  unfold Pd.sub;rw[List.take_append_of_le_length h]
 unfold meas;rw[g 0 (by decide),g 1 (by decide),g 2 (by decide),g 3 (by decide),s]
 have l1:¬ (a++x).length<8:=by simp;omega
 have l2:¬ a.length<8:=by omega
 rw[if_neg l1,if_neg l2]
theorem hdr_big(k:Nat):Pd.hdr k=0\/24<=Pd.hdr k:=by unfold Pd.hdr;split <;> simp
theorem meas_pos24{b:List (BitVec 8)}{f:Fm}(h:(meas b f).2=0):24<=(meas b f).1:=by
 unfold meas at h ⊢
 dsimp only at h ⊢
 by_cases h1:framed f=false
 ·rw[if_pos h1] at h;cases h
 rw[if_neg h1] at h ⊢
 by_cases h2:b.length<8
 ·rw[if_pos h2] at h;cases h
 rw[if_neg h2] at h ⊢;generalize (b.getD 0 0#8).toNat=k at *
 generalize (b.getD 1 0#8).toNat=fl at *
 generalize (b.getD 2 0#8).toNat=hl at *
 generalize (b.getD 3 0#8).toNat=at0 at *
 generalize Pd.bigL (Pd.sub b 4 8)=total at *
 have hk:=hdr_big k
 have hst:=Pd.start_ge k (f:=f) (by simpa using h1)
 generalize Pd.start k f=st at *
 generalize Pd.hsum k f=hsu at *
 generalize Pd.hdr k=hk0 at *
 generalize Pd.most k=mk at *
 by_cases h3:hk0=0
 ·rw[if_pos h3] at h;cases h
 rw[if_neg h3] at h ⊢
 split at h
 ·cases h
 rename_i h4;rw[if_neg h4];clear h4
 split at h
 ·cases h
 rename_i h5;rw[if_neg h5]
 split at h
 ·cases h
 rename_i h6;rw[if_neg h6]
 dsimp only
 generalize Pd.dsum k f (decide (0<at0))=ds at *
 have h7:¬ (at0=0/\total≠hk0+hsu)/\¬ (0<at0/\(total<at0+1+ds\/at0+mk+ds<total)):=⟨fun h=>h6 (.inr (.inl h)),fun h=>h6 (.inr (.inr h))⟩
 have h8:¬ (at0≠0/\at0≠st):=fun h=>h5 (.inr (.inl h))
 clear h5 h6;omega
theorem meas_of_dec{b:List (BitVec 8)}{f:Fm}{p:PDU}(h:dec b f=(p,0)):meas b f=(b.length,0):=by
 unfold dec at h
 dsimp only at h
 by_cases h1:(meas b f).2≠0
 ·rw[if_pos h1] at h
  exact absurd (Prod.mk.inj h).2 h1
 rw[if_neg h1] at h
 by_cases h2:b.length<(meas b f).1
 ·rw[if_pos h2] at h;cases h
 rw[if_neg h2] at h
 by_cases h3:(meas b f).1<b.length
 ·rw[if_pos h3] at h;cases h
 apply Prod.ext
 ·show(meas b f).1=b.length
  omega
 ·show(meas b f).2=0
  omega
theorem take_enc{p:PDU}{rest:List (BitVec 8)}(hb:s.b=enc p s.f++rest)(hf:framed s.f=true)(hv:valid p=true)(hm:(enc p s.f).length<=s.mo):takeE s=(p,(enc p s.f).length,0):=by
 have hd:=Pd.dec_enc hf hv
 have hms:=meas_of_dec hd
 have hp:=meas_pos24 (b:=enc p s.f) (f:=s.f) (by rw[hms])
 rw[hms] at hp
 have hm2:meas s.b s.f=((enc p s.f).length,0):=by rw[hb,meas_pre (by dsimp only at hp;omega),hms]
 have hl:s.b.length=(enc p s.f).length+rest.length:=by rw[hb,List.length_append]
 unfold takeE
 dsimp only at hp
 rw[if_neg (by omega),hm2]
 dsimp only
 rw[if_neg (by simp),if_neg (by omega),if_neg (by omega),hb,List.take_left' rfl,hd]
theorem next_enc{p:PDU}{rest:Bs}(he:s.e=0)(hb:s.b=enc p s.f++rest)(hf:framed s.f=true)(hv:valid p=true)(hm:(enc p s.f).length<=s.mo):nextE s=({ s with b:=rest,nb:=s.nb+(enc p s.f).length,np:=s.np+1 },p,0):=by
 have ht:=take_enc hb hf hv hm
 unfold nextE;rw[if_neg (by simpa using he),ht]
 dsimp only
 rw[if_neg (by decide),if_neg (by simp),hb,List.drop_left]
theorem next_nil(he:s.e=0)(hb:s.b=[]):nextE s=(s,{},9):=by
 have ht:takeE s=({},0,9):=by unfold takeE;rw[hb];simp
 unfold nextE;rw[if_neg (by simpa using he),ht]
 rfl
def eatR(r:Rc)(n:Nat):Rc:={ r with b:=[],nb:=r.nb+n,np:=r.np+1 }
theorem feedN_done{t:Ss}{k:Nat}(he:t.r.e=0)(hb:t.r.b=[]):feedN (k+1) t=t:=by
 show(if t.st=3 then t else _)=t
 by_cases h:t.st=3
 ·rw[if_pos h]
 ·rw[if_neg h,next_nil he hb]
  rfl
theorem feed_one{s:Ss}{p:PDU}(h3:s.st≠3)(he:s.r.e=0)(hb:s.r.b=[])(hf:framed s.r.f=true)(hv:valid p=true)(hm:(enc p s.r.f).length<=s.r.mo)(hl:(enc p s.r.f).length<=4194304){t:Ss}(ht:handleE { s with r:=eatR s.r (enc p s.r.f).length,rd:=[] } p=t)(hte:t.r.e=0)(htb:t.r.b=[]) :
  feedE s (enc p s.r.f)=({ t with rd:=[] },t.rd,0):=by
 have ha:addE s.r (enc p s.r.f)=({ s.r with b:=enc p s.r.f },0):=by
  unfold addE;rw[if_neg (by simpa using he),hb,if_neg (by simp;omega),List.nil_append]
 have hn:nextE { s.r with b:=enc p s.r.f }=(eatR s.r (enc p s.r.f).length,p,0) :=
  next_enc (s:={ s.r with b:=enc p s.r.f }) (rest:=[]) he (List.append_nil _).symm hf hv hm
 have hF:feedN ((enc p s.r.f).length+2) { s with r:={ s.r with b:=enc p s.r.f },rd:=[] }=t:=by
  show(if s.st=3 then _ else _)=t
  rw[if_neg h3]
  show(if (nextE { s.r with b:=enc p s.r.f }).2.2=9 then _ else _)=t
  rw[hn]
  dsimp only
  rw[if_neg (by decide),if_neg (by simp),ht];exact feedN_done hte htb
 unfold feedE;rw[if_neg h3,ha]
 dsimp only
 rw[if_neg (by simp),hF]
theorem framed_fm{d:BitVec 8}{a:Nat}(h:a<=31):framed (fmE d a)=true:=by
 show decide ((0:Int)<=(a:Int)/\(a:Int)<=31)=true
 exact decide_eq_true (by omega)
def helloN(al dg:BitVec 8):Nat:=(enc (hello al dg) f0).length
attribute [local irreducible] enc encE refE valid feedE in
theorem live_eq{c:Cf}(hc:c.al<=31){al dg:BitVec 8}(h1:al.toNat<=31)(h2:dg.toNat<=3) :
  liveE c al dg={ newS c with st:=2,f:=lfE c al dg,r:={ eatR (newS c).r (helloN al dg) with f:=fmE (digE c dg) c.al } }:=by
 have hv:=hello_valid h1 h2
 have hle:(enc (hello al dg) f0).length<=2097152:=enc_le rfl hv
 have hrf:(refE (eatR (newS c).r (helloN al dg)) (fmE (digE c dg) c.al)).1={ eatR (newS c).r (helloN al dg) with f:=fmE (digE c dg) c.al }:=by
  unfold refE;rw[if_neg (show ¬ (eatR (newS c).r (helloN al dg)).e≠0 from fun h=>h rfl),if_pos (framed_fm hc)]
 have ht:handleE { newS c with r:=eatR (newS c).r (helloN al dg),rd:=[] } (hello al dg)=openE { newS c with r:=eatR (newS c).r (helloN al dg),rd:=[] } (hello al dg):=by
  unfold handleE;rw[if_pos ⟨rfl,rfl⟩]
 have hr:(openE { newS c with r:=eatR (newS c).r (helloN al dg),rd:=[] } (hello al dg)).r={ eatR (newS c).r (helloN al dg) with f:=fmE (digE c dg) c.al }:=hrf
 have h:=feed_one (s:=newS c) (p:=hello al dg) (show(1:Nat)≠3 by decide) rfl rfl rfl hv hle (Nat.le_trans hle (by decide)) ht (by rw[hr];rfl) (by rw[hr];rfl)
 show({ (feedE (newS c) (enc (hello al dg) (newS c).r.f)).1 with out:=[] }:Ss)=_
 rw[h]
 dsimp only
 unfold openE
 dsimp only
 have e:(refE (eatR (newS c).r (helloN al dg)) (fmE (digE (newS c).c (hello al dg).h.dg) (newS c).c.al)).fst={ eatR (newS c).r (helloN al dg) with f:=fmE (digE c dg) c.al }:=hrf
 rw[e]
 rfl
theorem inv_live{c:Cf}(h:c.ok)(hc:c.al<=31){al dg:BitVec 8}(h1:al.toNat<=31)(h2:dg.toNat<=3):Inv (liveE c al dg):=by
 rw[live_eq hc h1 h2];exact⟨h,by show(2097152:Nat)≠0;decide,Nat.zero_le _,fun x hx=>absurd hx List.not_mem_nil,Nat.zero_le _,List.nodup_nil⟩
end Sn
end Go.Proofs.YtjnllcnknjlmmaaGreat
namespace Go.Proofs.YtjnllcnknjlmmaaGreat
open Go Go.RowKit
namespace Sn
theorem ent_len(op:BitVec 8)(id:BitVec 16)(n:Nat)(kd:BitVec 8)(h:n<4294967296):lenE (entE op id n kd)=n:=by
 show num [BitVec.ofNat 8 n,BitVec.ofNat 8 (n>>>8),BitVec.ofNat 8 (n>>>16),BitVec.ofNat 8 (n>>>24)]=n
 simp only[num,BitVec.toNat_ofNat,Nat.shiftRight_eq_div_pow];omega
theorem ent_id(op:BitVec 8)(id:BitVec 16)(n:Nat)(kd:BitVec 8):idE (entE op id n kd)=id:=by
 show BitVec.ofNat 16 (num [BitVec.ofNat 8 id.toNat,BitVec.ofNat 8 (id.toNat / 256)])=id
 have:=id.isLt
 simp only[num,BitVec.toNat_ofNat]
 apply BitVec.eq_of_toNat_eq
 simp only[BitVec.toNat_ofNat];omega
theorem ent_zer(op:BitVec 8)(id:BitVec 16)(n:Nat)(kd:BitVec 8):zer (((entE op id n kd).drop 24).take 8)=true/\zer (((entE op id n kd).drop 36).take 3)=true/\at_ (entE op id n kd) 39=kd/\at_ (entE op id n kd) 0=op:=⟨rfl,rfl,rfl,rfl⟩
theorem ent_desc2(c:Cf)(id:BitVec 16){n:Nat}(h:n<=1048576):descE c (entE 2#8 id n 90#8) 0=(n,true)/\dirE (entE 2#8 id n 90#8)=2:=by
 obtain⟨h1,h2,h3,h4⟩:=ent_zer 2#8 id n 90#8
 have hl:=ent_len 2#8 id n 90#8 (by omega)
 have hd:dirE (entE 2#8 id n 90#8)=2:=by unfold dirE;rw[h4];rfl
 refine⟨?_,hd⟩;unfold descE;rw[h1,h2,hl,hd,h3,decide_eq_false (by omega)]
 rfl
end Sn
end Go.Proofs.YtjnllcnknjlmmaaGreat
namespace Go.Proofs.YtjnllcnknjlmmaaGreat
open Go Go.RowKit
namespace Sn
open Pd (Fm PDU encE enc valid framed)
open Sr (Rc)
def encs(f:Fm)(ps:List PDU):Bs:=ps.flatMap fun p=>enc p f
theorem parse_encs{f:Fm}(hf:framed f=true):∀ (ps:List PDU) (n:Nat) (r:Rc) (l:List PDU),(∀ p∈ps,valid p=true)->ps.length<n->r.e=0->r.f=f->r.mo=2097152->r.b=encs f ps->parseN n r l=(l++ps,true)
 | [],0,_,_,_,h,_,_,_,_=>absurd h (Nat.not_lt_zero _)
 | [],n+1,r,l,_,_,he,_,_,hb=>by
  rw[parseN_stop (next_nil he hb) (by decide),hb,List.append_nil]
  rfl
 | p::ps,0,_,_,_,h,_,_,_,_=>absurd h (Nat.not_lt_zero _)
 | p::ps,n+1,r,l,hv,h,he,hrf,hm,hb=>by
  subst hrf
  have hp:=hv p List.mem_cons_self
  rw[parseN_go (next_enc (p:=p) (rest:=encs r.f ps) he hb hf hp (by rw[hm];exact enc_le hf hp))];refine(parse_encs hf ps n { r with b:=encs r.f ps,nb:=r.nb+(enc p r.f).length,np:=r.np+1 } (l++[p]) (fun q hq=>hv q (List.mem_cons_of_mem _ hq)) (by simpa using h) he rfl hm rfl).trans ?_;rw[List.append_assoc]
  rfl
theorem parseE_encs{f:Fm}(hf:framed f=true){ps:List PDU}(hv:∀ p∈ps,valid p=true)(h:ps.length<1000):parseE f (encs f ps)=(ps,true) :=
 parse_encs hf ps 1000 (newR f (encs f ps)) [] hv h rfl rfl rfl rfl
theorem encE_eq{p:PDU}{f:Fm}(hf:framed f=true)(hv:valid p=true):(encE p f).1=enc p f:=by
 unfold encE;rw[if_pos hf,if_pos hv]
def owE(c:Cf)(dg:BitVec 8):Fm:=fmE (digE c dg) c.al
structure Lv (cc:Cf) (al dg:BitVec 8) (s:Ss):Prop where
 c:s.c=cc
 st:s.st=2
 re:s.re=0
 f:s.f=lfE cc al dg
 rf:s.r.f=owE cc dg
 re0:s.r.e=0
 rb:s.r.b=[]
 rm:s.r.mo=2097152
theorem lv_live{c:Cf}(hc:c.al<=31){al dg:BitVec 8}(h1:al.toNat<=31)(h2:dg.toNat<=3):Lv c al dg (liveE c al dg)/\(liveE c al dg).out=[]/\(liveE c al dg).tx=[]/\(liveE c al dg).rp=[]/\(liveE c al dg).rd=[]/\(liveE c al dg).r.nb<=2097152/\(liveE c al dg).r.np=1:=by
 rw[live_eq hc h1 h2];refine⟨⟨rfl,rfl,rfl,rfl,rfl,rfl,rfl,rfl⟩,rfl,rfl,rfl,rfl,?_,rfl⟩
 show 0+helloN al dg<=_
 rw[Nat.zero_add];exact enc_le rfl (hello_valid h1 h2)
theorem lv_feed{c:Cf}{al dg:BitVec 8}{s:Ss}(h:Lv c al dg s)(hc:c.al<=31){p:PDU}(hv:valid p=true){t:Ss}(ht:handleE { s with r:=eatR s.r (enc p (owE c dg)).length,rd:=[] } p=t)(hr:t.r=eatR s.r (enc p (owE c dg)).length) :
  feedE s (enc p (owE c dg))=({ t with rd:=[] },t.rd,0):=by
 have hf:=framed_fm (d:=digE c dg) hc
 have hl:=enc_le hf hv
 rw[show fmE (digE c dg) c.al=s.r.f from h.rf.symm] at hf hl;rw[show owE c dg=s.r.f from h.rf.symm] at ht hr ⊢;exact feed_one (by rw[h.st];decide) h.re0 h.rb hf hv (by rw[h.rm];exact hl) (Nat.le_trans hl (by decide)) ht (by rw[hr];exact h.re0) (by rw[hr];rfl)
end Sn
end Go.Proofs.YtjnllcnknjlmmaaGreat
namespace Go.Proofs.YtjnllcnknjlmmaaGreat
open Go Go.RowKit
namespace Sn
open Pd (valid framed)
theorem v_cmd{en da:Bs}(h:en.length=64)(hd:da.length<=1048576):valid { h:={ k:=4#8 },en:=en,da:=da }=true:=by
 unfold valid Pd.only Pd.own;simp[Pd.hdr,Pd.most,h,hd]
theorem getA_nil{α:Type}(k:BitVec 16):getA ([]:List (BitVec 16 × α)) k=none:=rfl
theorem getA_one{α:Type}(k:BitVec 16)(v:α):getA [(k,v)] k=some v:=by unfold getA;simp
theorem delA_one{α:Type}(k:BitVec 16)(v:α):delA [(k,v)] k=[]:=by unfold delA;simp
theorem framed_lf{c:Cf}{al dg:BitVec 8}(h1:al.toNat<=31):framed (lfE c al dg)=true:=framed_fm h1
end Sn
end Go.Proofs.YtjnllcnknjlmmaaGreat
namespace Go.Proofs.YtjnllcnknjlmmaaGreat
open Go Go.ChangeShapes Go.WideShapes Go.ChangeAt Go.RowKit
namespace Sn
open Bv (n8)
variable {W:World} {base:Nat} {v:Value}
theorem open_u8(hv:Value.okWide Tryz.prog W .any base 5 v):∃ x:BitVec 8,v=.int .u8 (n8 x):=by
 have hu:=Tryz.underlying5
 obtain⟨z,rfl⟩:=okWide_int hu hv
 have h:IntKind.u8=IntKind.u8/\IntKind.u8.has z:=by
  unfold Value.okWide at hv;rw[hu] at hv;exact hv
 replace h:=h.2
 simp only[IntKind.has,IntKind.min,IntKind.max,IntKind.signed,IntKind.bits] at h;exact⟨BitVec.ofInt 8 z,by unfold n8;rw[BitVec.toNat_ofInt];simp at h ⊢;omega⟩
variable {H:Type} {enc:TypeId × Value->H} {r:Reach} {d:DataW H} {p:List MemPlace}
def cfK:List (Option IntKind):=[none,none,some .i64,some .i64,some .i64,some .i64,some .i64]
theorem open_cfg(hv:Value.okWide Tryz.prog W r base 23 v)(h:DataW.Trod enc Tryz.prog W 0 (fun _=>true) true 23 v d p):∃ q:Rw,v=.agg (rwl q).toArray:=by
 obtain⟨cs,rfl,hf⟩:=Lift.open_flatv (ks:=cfK) 3 (by kernel_rfl) (by kernel_rfl) hv h
 obtain⟨_,_,rfl,⟨b0,rfl⟩,_,_,rfl,⟨b1,rfl⟩,_,_,rfl,⟨a0,rfl,_⟩,_,_,rfl,⟨a1,rfl,_⟩,_,_,rfl,⟨a2,rfl,_⟩,_,_,rfl,⟨a3,rfl,_⟩,_,_,rfl,⟨a4,rfl,_⟩,h5⟩:=hf
 obtain rfl:=h5
 exact⟨⟨b0,b1,a0,a1,a2,a3,a4⟩,rfl⟩
end Sn
end Go.Proofs.YtjnllcnknjlmmaaGreat
namespace Go.Proofs.YtjnllcnknjlmmaaGreat
open Go Go.RowKit
namespace Sn
open Pd (Fm PDU enc iv fv)
open Se (St At Reads)
open Li (v8)
open Bv (n8)
variable {w0 w:World} {X:List Nat} {L:List At}
attribute [local irreducible] Calls
structure Bd (s:Ss):Prop where
 i:Inv s
 nb:s.r.nb+s.r.b.length<=4398046511104
 np:s.r.np+s.r.b.length<=4398046511104
theorem feed_d{N:List At}{g:Nat}{s:Ss}{f:Pf}(hs:St w0 X (N++FF g s f L) w)(ok:OkP s f.k)(hb:Bd s)(x:Bs){A:Option Addr}{n c:Nat}(hn:n=x.length)(hx:Reads (N++L) A (x.map v8))(hnl:n<=4194304)
  (h3:s.out.length<=4398046511104) {s':Ss} {l:List Rq} {e m:Nat} (hr:feedE s x=(s',l,e)) (hm:m=l.length) :
  Calls Tryz.prog 37 #[.pointer (some ⟨g,0,none⟩),.slice A n c] w fun e' w'=>∃ RB rc f',e'=.returned (.tuple #[.slice RB m rc,iv e])/\Hid (OkP s' f'.k)/\St w0 X (N++FF g s' f' L) w':=by
 have hb1:=hb.i.b
 have hb2:=hb.nb
 have hb3:=hb.np
 refine(feed_m N hs ok hb.i x hn hx (by omega) (by omega) (by omega) (by omega) hr).mono ?_;rintro e' w' ⟨RB,rc,rq,rl,f',h4,h5,h6,h7⟩;rw[<-hm] at h4;exact⟨RB,rc,f',h4,Lib.hid h6,h7.sub (List.Sublist.cons _ (List.sublist_append_right _ _))⟩
theorem feed_k{N:List At}{g:Nat}{s:Ss}{f:Pf}(hs:St w0 X (N++FF g s f L) w)(ok:OkP s f.k)(hb:Bd s)(x:Bs){A:Option Addr}{n c:Nat}(hn:n=x.length)(hx:Reads (N++L) A (x.map v8))(hnl:n<=4194304)
  (h3:s.out.length<=4398046511104) {s':Ss} {l:List Rq} {e m:Nat} (hr:feedE s x=(s',l,e)) (hm:m=l.length) :
  Calls Tryz.prog 37 #[.pointer (some ⟨g,0,none⟩),.slice A n c] w fun e' w'=>∃ RB rc rq rl f',e'=.returned (.tuple #[.slice RB m rc,iv e])/\Hid (rqo rl=l/\∀ x∈rl,x.1.en.length=64)/\Hid (OkP s' f'.k)/\St w0 X (.own 67 rq RB m rc (rqs rl)::(qAs rl++(N++FF g s' f' L))) w':=by
 have hb1:=hb.i.b
 have hb2:=hb.nb
 have hb3:=hb.np
 refine(feed_m N hs ok hb.i x hn hx (by omega) (by omega) (by omega) (by omega) hr).mono ?_;rintro e' w' ⟨RB,rc,rq,rl,f',h4,h5,h6,h7⟩;rw[<-hm] at h4 h7;exact⟨RB,rc,rq,rl,f',h4,h5,Lib.hid h6,h7⟩
theorem bd_feed{s s':Ss}{x:Bs}{l:List Rq}{e:Nat}(h:s.r.nb+s.r.b.length<=2199023255552/\s.r.np+s.r.b.length<=2199023255552)(hi:Inv s)(hx:x.length<=4194304)(hr:feedE s x=(s',l,e)):Bd s':=by
 have hk:KeptF s s' x.length:=by
  have hk:=feedE_kept hi x
  rw[hr] at hk;exact hk
 have h1:=hk.nb
 have h2:=hk.np
 exact⟨hk.i,by omega,by omega⟩
theorem output_d{N:List At}{g:Nat}{s:Ss}{f:Pf}(hs:St w0 X (N++FF g s f L) w)(ok:OkP s f.k){m:Nat}(hm:s.out.length=m){o:Bs}(ho:s.out=o){s':Ss}(hs':s'={ s with out:=[] }) :
  Calls Tryz.prog 39 #[.pointer (some ⟨g,0,none⟩)] w fun e' w'=>∃ B r c f',e'=.returned (.slice B m c)/\Hid (OkP s' f'.k)/\St w0 X (.own 1 r B m c (o.map v8)::(N++FF g s' f' L)) w':=by
 subst hs' ho hm;refine(output_m N hs ok).mono ?_;rintro e' w' ⟨B,r,c,f',h1,h2,h3⟩;exact⟨B,r,c,f',h1,Lib.hid h2,h3⟩
theorem output_n{N:List At}{g:Nat}{s:Ss}{f:Pf}(hs:St w0 X (N++FF g s f L) w)(ok:OkP s f.k)(ho:s.out=[]) :
  Calls Tryz.prog 39 #[.pointer (some ⟨g,0,none⟩)] w fun e' w'=>∃ B c f',e'=.returned (.slice B 0 c)/\Hid (OkP s f'.k)/\St w0 X (N++FF g s f' L) w':=by
 refine(output_d hs ok (m:=0) (by rw[ho];rfl) ho (s':=s) (by cases s;simp only at ho;rw[ho])).mono ?_;rintro e' w' ⟨B,r,c,f',h1,h2,h3⟩;exact⟨B,c,f',h1,h2,h3.drop⟩
theorem live_d{N:List At}(hs:St w0 X (N++L) w)(r:Rw)(al dg:BitVec 8)(h:vB r=true)(h1:al.toNat<=31)(h2:dg.toNat<=3):Calls Tryz.prog 43 #[.agg (rwl r).toArray,.int .u8 (n8 al),.int .u8 (n8 dg)] w fun e w'=>∃ g f,e=.returned (.tuple #[.pointer (some ⟨g,0,none⟩),fv (lfE (cfR r) al dg)])/\Hid (OkP (liveE (cfR r) al dg) f.k)/\St w0 X (N++FF g (liveE (cfR r) al dg) f L) w':=by
 refine(live_yes hs r al dg h h1 h2).mono ?_;rintro e w' ⟨g,f,h3,h4,h5⟩;exact⟨g,f,h3,Lib.hid h4,h5.perm (FF_front N).symm⟩
theorem own_cap{s:Nat}{r:Option Nat}{A:Option Addr}{n c:Nat}{xs:List Value}{w:World}(h:At.holds w (.own s r A n c xs)):n<=c:=h.2.1
theorem parse_d{r:Option Nat}{B:Option Addr}{m c:Nat}{f:Fm}{ps:List PDU}(hs:St w0 X (.own 1 r B m c ((encs f ps).map v8)::L) w)(hf:Pd.framed f=true)(hv:∀ p∈ps,Pd.valid p=true)(hl:ps.length<1000)(hm:m=(encs f ps).length)(hle:m<=4194304){k:Nat}(hk:ps.length=k) :
  Calls Tryz.prog 45 #[.slice B m c,fv f] w fun e w'=>∃ OB r oc l R,e=.returned (.tuple #[.slice OB k oc,.bool true])/\Hid (l.map (·.1)=ps/\RdP (R++L) l)/\St w0 X (.own 14 r OB k oc (pcs l)::(R++L)) w':=by
 have hc:m<=c:=own_cap (hs.hold _ List.mem_cons_self)
 have h:=parse_st (hs.own_rd) f (c:=c) (by rw[<-hm];exact hc) (by rw[<-hm];exact hle) (parseE_encs hf hv hl)
 rw[<-hm] at h;refine h.mono ?_;rintro e w' ⟨OB,r,oc,l,R,h1,h2,h3⟩
 have h4:l.length=k:=by rw[<-hk,<-h2.out.1,List.length_map]
 rw[h4] at h1 h3;exact⟨OB,r,oc,l,R,h1,h2,h3⟩
theorem enc_small{p:PDU}{f:Fm}(hf:Pd.framed f=true)(hv:Pd.valid p=true):(enc p f).length<=p.da.length+260:=by
 rw[Pd.enc_len p f hf hv]
 have h1:=Pd.hdr_bd (Pd.hdr_ne hv)
 have h2:=Pd.start_lt hf (Pd.hdr_ne hv)
 have h3:Pd.hs p f<=4:=by unfold Pd.hs Pd.hsum;split <;> omega
 have h4:Pd.ds p f<=4:=by unfold Pd.ds Pd.dsum;split <;> omega
 unfold Pd.size
 split <;> omega
theorem encs_small{f:Fm}(hf:Pd.framed f=true){d:Nat}:∀ (ps:List PDU),(∀ p∈ps,Pd.valid p=true/\p.da.length<=d)->(encs f ps).length<=(d+260)*ps.length
 | [],_=>Nat.zero_le _
 | p::ps,h=>by
  have h1:=encs_small hf ps (fun q hq=>h q (List.mem_cons_of_mem _ hq))
  have h2:=enc_small hf (h p List.mem_cons_self).1
  have h3:=(h p List.mem_cons_self).2
  have h5:(encs f (p::ps)).length=(enc p f).length+(encs f ps).length:=by unfold encs;rw[List.flatMap_cons,List.length_append]
  rw[h5,List.length_cons,Nat.mul_succ];omega
end Sn
end Go.Proofs.YtjnllcnknjlmmaaGreat
namespace Go.Proofs.YtjnllcnknjlmmaaGreat
open Go Go.RowKit
namespace Sn
open Se (At)
variable {w0 w:World} {X:List Nat} {L:List At}
attribute [local irreducible] Calls
theorem rwl_al{r:Rw}(h:vB r=true):(rwl r)[2]? = some (.int .i64 (cfR r).al):=by rw[(vB_ok h).1];rfl
theorem isB_true{a b:Nat}{zs:List Int}{x y:Int}{ids:List Int}(h1:(a:Int)=x)(h2:(b:Int)=y)(h3:zs=ids):isB a b zs x y ids=true:=by
 unfold isB;rw[decide_eq_true h1,decide_eq_true h2,decide_eq_true h3]
 rfl
theorem FF_sub{g:Nat}{s:Ss}{f:Pf}:L.Sublist (FF g s f L) :=
 List.Sublist.cons _ (List.Sublist.cons _ (List.Sublist.cons _ (List.Sublist.cons _ (List.Sublist.cons _ (List.Sublist.cons _ (List.Sublist.cons _ (List.sublist_append_of_sublist_right (List.sublist_append_right _ _))))))))
end Sn
end Go.Proofs.YtjnllcnknjlmmaaGreat
namespace Go.Proofs.YtjnllcnknjlmmaaGreat
open Go Go.RowKit
namespace Sn
open Pd (iv)
open Se (St At Reads)
open Su (u16)
open Li (v8 Rd)
open Bv (n16)
variable {w0 w:World} {X:List Nat} {L:List At}
attribute [local irreducible] Calls
theorem same_one{M:List At}{w:World}(hs:St w0 X M w){q:Rq}{rl:List (Rq × Th)}{RB:Option Addr}{rc g2:Nat}(h:rqo rl=[q])(h2:∀ x∈rl,x.1.en.length=64)(hR:∃ ga oa,RB=some ⟨ga,oa,none⟩)(hX:Reads M RB (rqs rl))(hD:∀ p∈rl,Reads M p.2.A (p.1.da.map v8)){A:Option Addr}{n c:Nat}(hn:n=q.da.length)(hY:Reads M (some ⟨g2,0,none⟩) (Value.int .u16 (n16 q.id)::(q.en.map v8++[Value.slice A n c,iv q.rp])))(hE:Reads M A (q.da.map v8)) :
  Calls Tryz.prog 40 #[.slice RB 1 rc,.slice (some ⟨g2,0,none⟩) 1 1] w fun e w'=>e=.returned (.bool true)/\St w0 X M w':=by
 obtain⟨ga,oa,rfl⟩:=hR
 have hl:rl.length=1:=by have:=congrArg List.length h;simpa [rqo] using this
 refine rsame_st hs (l1:=rl) (l2:=[(q,⟨none,A,c⟩)]) h h2 (n:=1) hl.symm (fun _=>rfl) (fun _=>rfl) hX ?_ hD ?_ (by decide)
 ·have e:rqs [(q,(⟨none,A,c⟩:Th))]=Value.int .u16 (n16 q.id)::(q.en.map v8++[Value.slice A n c,iv q.rp]):=by
   unfold rqs;rw[List.flatMap_singleton,hn]
   rfl
  rw[e];exact hY
 ·intro p hp
  obtain rfl:=List.mem_singleton.1 hp
  exact hE
theorem rd_addr{w:World}{A:Option Addr}{xs:List Value}(h:Rd w A xs)(h0:0<xs.length):∃ g o,A=some ⟨g,o,none⟩:=by
 obtain⟨g,o,h1,-⟩:=Rd.cells h (by intro e;rw[e] at h0;exact absurd h0 (Nat.lt_irrefl _))
 exact⟨g,o,h1⟩
end Sn
end Go.Proofs.YtjnllcnknjlmmaaGreat
