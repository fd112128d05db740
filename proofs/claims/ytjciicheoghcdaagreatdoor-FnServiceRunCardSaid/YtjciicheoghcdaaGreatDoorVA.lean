/- Part of the proof: the law FnServiceRun is true for every input. -/
import Derived.Test.YtjciicheoghcdaaGreatDoorVv
import Derived.Test.YtjciicheoghcdaaGreatDoorVw
import Derived.Test.YtjciicheoghcdaaGreatDoorVx
import Derived.Test.YtjciicheoghcdaaGreatDoorVz
namespace Go.Proofs.YtjciicheoghcdaaGreatDoor
open Go.RowKit Go.Proofs.Tryz
set_option linter.all false
set_option maxRecDepth 20000
set_option maxHeartbeats 16000000
theorem xE {c:UInt8} {t:List UInt8} {s:ByteArray} (h:s=bs (c::t)):s.extract 1 s.size=bs t:=by
 subst h
 exact na (c::t)
theorem iP (l:List UInt8) (hl:l.length<=1048576) (w:World):Calls prog 88 #[.string (bs l)] w (Rv l w):=by
 obtain⟨s,hs⟩:∃ s,s=bs l:=⟨_,rfl⟩;rw[<-hs];have hss:s.size=l.length:=by rw[hs,aK]
 have HS:=Qh hs
 cases l with
 | nil =>
  have hz:s.toList.isEmpty=true:=by rw[mm];exact(jo _ _).2 (by rw[hs];rfl)
  have hz2:s.size=0:=by rw[hss];rfl
  have HR:Hid (RF [] 0 false):= .inr ⟨rfl,rfl,fun x _ _=>y9 x⟩
  clear hs hss hl
  go_enter func88,ntmps88
  go_wp2_with fail
  refine wp_loop_rounds 1 ?_;rw[rounds_succ]
  go_wp2_with fail
  refine Qc (bG 0 w) ?_
  go_wp2_with fail
  go_wp2
  go_ret2
  exact⟨0,false,rfl,HR.out,Below.refl _ _⟩
 | cons c0 t0 =>
  have hz:s.toList.isEmpty=false:=by rw[mm];exact iE (fun e=>by have:=gU (b:=[]) (hs.symm.trans e);cases this)
  have hs0:0<s.size:=by rw[hss];simp
  obtain⟨hx0,hb0⟩:=jY (c0::t0) hs 0 hs0;have hc0:(s[0].toNat:Int)=(c0.toNat:Int):=by rw[<-hb0];rfl
  have hsI:(s.size:Int)<=1048576:=by rw[hss];omega
  by_cases hneg:c0=45
  ·have hc1:(c0.toNat:Int)=45:=by rw[hneg];rfl
   obtain⟨b,hb⟩:∃ b,s.extract 1 s.size=b:=⟨_,rfl⟩;obtain⟨t,ht⟩:∃ t,t=t0:=⟨_,rfl⟩;have HB:Hid (b=bs t):=by show _=_;rw[<-hb,ht];exact xE hs
   have HBS:Hid (t.length=b.size):=by show _=_;rw[HB.out,aK]
   have hbI:(b.size:Int)<=1048576:=by rw[<-HBS.out,ht];rw[hss,List.length_cons] at hsI;omega
   have HLT:Hid (c0::t0=45::t):=by show _=_;rw[hneg,ht]
   obtain⟨l,hll⟩:∃ l,l=c0::t0:=⟨_,rfl⟩;rw[<-hll] at HLT HS ⊢;clear hs hss hl hx0 hb0 hneg ht hll
   go_enter func88,ntmps88
   go_wp2_with fail
   go_loop [6,7] (fun q i=>∃ (k:Nat) (n:Int),k<=b.size/\i= .int .i64 k/\q= .int .i64 n/\Hid (E1 t k n)) (fun _ i=>b.size-(intOf i).toNat)
   case atStart=>exact⟨0,0,Nat.zero_le _,rfl,rfl,E1.start t⟩
   case round =>
    obtain⟨k,n,hk,rfl,rfl,he⟩:=hrel;obtain⟨n0,n1⟩:=he.out.bd;have k0:(0:Int)<=(k:Int):=by omega
    by_cases hlt:k<b.size
    case' neg =>
     have hltI:(b.size:Int)<=(k:Int):=by omega
     have HST:Hid (Stop t k):=fun h _=>by exfalso;have:=HBS.out;omega
     have HNO:Hid (t[k]?≠some 46):=by rw[Hid,List.getElem?_eq_none (by have:=HBS.out;omega)];intro e;cases e
    case' pos =>
     have hltI:(k:Int)<(b.size:Int):=by omega
     obtain⟨hkl,hbk⟩:=jY t HB.out k hlt;obtain⟨y,hy⟩:∃ y:Int,(b[k].toNat:Int)=y:=⟨_,rfl⟩;have HY:Hid ((t[k].toNat:Int)=y):=by show _=_;rw[hbk];exact hy
     clear hbk
     by_cases h4:k<4
     case' neg =>
      have h4I:(4:Int)<=(k:Int):=by omega
      have HST:Hid (Stop t k):=fun _ h=>absurd h h4
     case' pos =>
      have h4I:(k:Int)<4:=by omega
      by_cases hd:48<=y/\y<=57
      case pos =>
       obtain⟨d0,d1⟩:=hd;have hst:=he.out.step hkl h4 (rK (by have:=HY.out;omega))
       rw[HY.out] at hst;have hbd:=hst.bd;obtain⟨b0,b1⟩:=hbd;have HST4:=Qh hst;have e10:10*n=n*10:=Int.mul_comm _ _;have q1:=IntWalk.i64_in (n*10) (by omega)
       have q2:=IntWalk.i64_in (n*10+(y-48)) (by omega)
       clear hst he;go_wp2
       go_round
       case rel=>exact⟨k+1,n*10+(y-48),by omega,by go_num,by go_num,HST4.out⟩
       case measure=>simp[intOf];omega
      case' neg =>
       have HST:Hid (Stop t k):=fun _ _=>rJ (by have:=HY.out;omega)
       rcases Int.lt_or_le y 48 with hd1|hd1
       case' inr=>have hd2:57<y:=by omega
       all_goals clear hd
     all_goals
      by_cases hyd:y=46
      case' neg =>
       have HNO:Hid (t[k]?≠some 46):=by rw[Hid,List.getElem?_eq_getElem hkl];intro e;injection e with e;have:=HY.out;rw[e] at this;exact hyd (by have e2:(46:UInt8).toNat=46:=rfl;omega)
       have hydb:(y == 46)=false:=beq_eq_false_iff_ne.2 hyd;clear hyd
      case pos =>
       first
       | (exfalso;omega)
       | (
        have hyd2:y=46:=hyd;subst hyd2;have hkk:k<b.size:=hlt;have HDOT:Hid (t[k]?=some 46):=by show _=_;rw[List.getElem?_eq_getElem hkl];congr 1;exact UInt8.toNat_inj.1 (by have:=HY.out;have e:(46:UInt8).toNat=46:=rfl;omega)
        go_wp2_with fail
        go_loop [7,8,9,10] (fun q1 q2 q3 q4=>∃ (i j:Nat) (p sc:Int),q1= .int .i64 i/\q2= .int .i64 p/\q3= .int .i64 sc/\q4= .int .i64 j/\j<=4/\i<=b.size/\Hid (i=k+1+j)/\Hid (E2 (t.drop (k+1)) j p sc)) (fun _ _ _ q=>4-(intOf q).toNat)
        case atStart=>exact⟨k+1,0,0,10000,by go_num,rfl,rfl,rfl,by omega,by omega,rfl,E2.start _⟩
        case round =>
         obtain⟨i,j,p,sc,rfl,rfl,rfl,rfl,hj4,hi,hij,he2⟩:=hrel;obtain⟨p0,p1,s0,s1⟩:=he2.out.bd;obtain⟨n0,n1⟩:=he.out.bd;have i0:(0:Int)<=(i:Int):=by omega
         have j0:(0:Int)<=(j:Int):=by omega
         have HD:Hid ((t.drop (k+1)).length=b.size-(k+1)):=by show _=_;rw[List.length_drop,HBS.out]
         by_cases hj:j<4
         case' neg =>
          have hjI:(4:Int)<=(j:Int):=by omega
          have HST2:Hid (Stop (t.drop (k+1)) j):=fun _ h=>absurd h hj
         case' pos =>
          have hjI:(j:Int)<4:=by omega
          by_cases hib:i<b.size
          case' neg =>
           have hibI:(b.size:Int)<=(i:Int):=by omega
           have HST2:Hid (Stop (t.drop (k+1)) j):=fun h _=>by exfalso;have h1:=HD.out;have h2:=hij.out;omega
          case' pos =>
           have hibI:(i:Int)<(b.size:Int):=by omega
           have hDl:j<(t.drop (k+1)).length:=by have h1:=HD.out;have h2:=hij.out;omega
           obtain⟨hil,hbi⟩:=jY t HB.out i hib;obtain⟨z,hz⟩:∃ z:Int,(b[i].toNat:Int)=z:=⟨_,rfl⟩;have HZ:Hid (((t.drop (k+1))[j].toNat:Int)=z):=by
            show _=_
            rw[<-hz,<-hbi,List.getElem_drop]
            congr 3
            exact hij.out.symm
           clear hbi
           by_cases hd:48<=z/\z<=57
           case pos =>
            obtain⟨z0,z1⟩:=hd;obtain⟨s2,h10,hs2,hs3,hs4,hs5⟩:=he2.out.sc hj;have hst:=he2.out.step hDl hj (rK (by have:=HZ.out;omega)) hs2 hs3
            rw[HZ.out] at hst;have hm:0<=s2*(z-48)/\s2*(z-48)<=1000*9:=⟨Int.mul_nonneg (by omega) (by omega),Int.mul_le_mul (by omega) (by omega) (by omega) (by omega)⟩
            have q1:=IntWalk.i64_in (s2*(z-48)) (by omega)
            have q2:=IntWalk.i64_in (p+s2*(z-48)) (by omega)
            have hs0:0<=sc:=by omega
            have HST4:=Qh hst;have HIJ:=Qh (show i+1=k+1+(j+1) by have:=hij.out;omega)
            clear hst hs2 hs3 hij he2 hm;go_wp2
            go_round
            case rel=>exact⟨i+1,j+1,_,s2,by go_num,rfl,by rw[h10],by go_num,by omega,by omega,HIJ.out,HST4.out⟩
            case measure=>simp[intOf];omega
           case' neg =>
            have HST2:Hid (Stop (t.drop (k+1)) j):=fun _ _=>rJ (by have:=HZ.out;omega)
            clear HZ;rcases Int.lt_or_le z 48 with hd1|hd1
            case' inr=>have hd2:57<z:=by omega
            all_goals clear hd
         all_goals
          have HE3:Hid (E3 t (n*16+p/625)):=⟨k,n,he.out,HST.out,.inr ⟨HDOT.out,j,p,sc,he2.out,HST2.out,rfl⟩⟩;have r0:0<=p/625:=by omega
          have r1:=IntWalk.i64_in (n*16) (by omega)
          have r2:=IntWalk.i64_in (n*16+p/625) (by omega)
          have r3:=IntWalk.i64_in (-(n*16+p/625)) (by omega)
          obtain⟨v,hv⟩:∃ v,v=(-(n*16+p/625))%4096:=⟨_,rfl⟩;have hv0:0<=v/\v<=4095:=by rw[hv];omega
          have HVV:=Qh hv;have HNN:Hid (∀ x,0<=x->x<=4095->fx x=l->v=x):=fun x h0 h1 e=>by rw[HVV.out];exact E3.neg HLT.out HE3.out x h0 h1 e
          clear hv HE3
          go_wp2_with fail
          refine Qc (bG (-(n*16+p/625)) w) ?_;rw[<-HVV.out]
          go_wp2_with fail
          refine(dM v hv0 w).mono ?_;rintro e w2 ⟨rfl,hb2⟩;have HB2:=Qh hb2;clear hb2
          by_cases hf:fx v=l
          ·have hR:=Qh (RF.yes hv0 hf);have hne:((bs (fx v)).toList == s.toList)=true:=by rw[<-Go.beq_toListBytes,jo,HS.out,hf]
           clear hf;go_wp2
           go_ret2
           exact⟨v,true,rfl,hR.out,HB2.out⟩
          ·have hR:=Qh (RF.noS HNN.out hf);have hne:((bs (fx v)).toList == s.toList)=false:=by rw[<-Go.beq_toListBytes];exact iE (fun e=>hf (gU (by rw[<-HS.out];exact e)))
           clear hf;go_wp2
           go_ret2
           exact⟨0,false,rfl,hR.out,HB2.out⟩)
    all_goals
     have HE3:Hid (E3 t (n*16)):=⟨k,n,he.out,HST.out,.inl ⟨HNO.out,rfl⟩⟩;have r1:=IntWalk.i64_in (n*16) (by omega)
     have r3:=IntWalk.i64_in (-(n*16)) (by omega)
     obtain⟨v,hv⟩:∃ v,v=(-(n*16))%4096:=⟨_,rfl⟩;have hv0:0<=v/\v<=4095:=by rw[hv];omega
     have HVV:=Qh hv;have HNN:Hid (∀ x,0<=x->x<=4095->fx x=l->v=x):=fun x h0 h1 e=>by rw[HVV.out];exact E3.neg HLT.out HE3.out x h0 h1 e
     clear hv HE3
     go_wp2_with fail
     refine Qc (bG (-(n*16)) w) ?_;rw[<-HVV.out]
     go_wp2_with fail
     refine(dM v hv0 w).mono ?_;rintro e w2 ⟨rfl,hb2⟩;have HB2:=Qh hb2;clear hb2
     by_cases hf:fx v=l
     ·have hR:=Qh (RF.yes hv0 hf);have hne:((bs (fx v)).toList == s.toList)=true:=by rw[<-Go.beq_toListBytes,jo,HS.out,hf]
      clear hf;go_wp2
      go_ret2
      exact⟨v,true,rfl,hR.out,HB2.out⟩
     ·have hR:=Qh (RF.noS HNN.out hf);have hne:((bs (fx v)).toList == s.toList)=false:=by rw[<-Go.beq_toListBytes];exact iE (fun e=>hf (gU (by rw[<-HS.out];exact e)))
      clear hf;go_wp2
      go_ret2
      exact⟨0,false,rfl,hR.out,HB2.out⟩
  ·have hc1:((c0.toNat:Int) == 45)=false:=by
    rw[beq_eq_false_iff_ne];intro h
    exact hneg (UInt8.toNat_inj.1 (by have e:(45:UInt8).toNat=45:=rfl;omega))
   obtain⟨l,hll⟩:∃ l,l=c0::t0:=⟨_,rfl⟩;have HLT:=Qh hll;have HB45:=Qh hneg;rw[<-hll] at HS hs hss ⊢;have HB:=Qh hs;have HBS:=Qh hss.symm;have hs00:=Qh hs0;clear hs hss hl hx0 hb0 hneg hll
   go_enter func88,ntmps88
   go_wp2_with fail
   go_loop [6,7] (fun q i=>∃ (k:Nat) (n:Int),k<=s.size/\i= .int .i64 k/\q= .int .i64 n/\Hid (E1 l k n)) (fun _ i=>s.size-(intOf i).toNat)
   case atStart=>exact⟨0,0,Nat.zero_le _,rfl,rfl,E1.start l⟩
   case round =>
    obtain⟨k,n,hk,rfl,rfl,he⟩:=hrel;obtain⟨n0,n1⟩:=he.out.bd;have k0:(0:Int)<=(k:Int):=by omega
    by_cases hlt:k<s.size
    case' neg =>
     have hltI:(s.size:Int)<=(k:Int):=by omega
     have HST:Hid (Stop l k):=fun h _=>by exfalso;have:=HBS.out;omega
     have HNO:Hid (l[k]?≠some 46):=by rw[Hid,List.getElem?_eq_none (by have:=HBS.out;omega)];intro e;cases e
    case' pos =>
     have hltI:(k:Int)<(s.size:Int):=by omega
     obtain⟨hkl,hbk⟩:=jY l HB.out k hlt;obtain⟨y,hy⟩:∃ y:Int,(s[k].toNat:Int)=y:=⟨_,rfl⟩;have HY:Hid ((l[k].toNat:Int)=y):=by show _=_;rw[hbk];exact hy
     clear hbk
     by_cases h4:k<4
     case' neg =>
      have h4I:(4:Int)<=(k:Int):=by omega
      have HST:Hid (Stop l k):=fun _ h=>absurd h h4
     case' pos =>
      have h4I:(k:Int)<4:=by omega
      by_cases hd:48<=y/\y<=57
      case pos =>
       obtain⟨d0,d1⟩:=hd;have hst:=he.out.step hkl h4 (rK (by have:=HY.out;omega))
       rw[HY.out] at hst;have hbd:=hst.bd;obtain⟨b0,b1⟩:=hbd;have HST4:=Qh hst;have e10:10*n=n*10:=Int.mul_comm _ _;have q1:=IntWalk.i64_in (n*10) (by omega)
       have q2:=IntWalk.i64_in (n*10+(y-48)) (by omega)
       clear hst he;go_wp2
       go_round
       case rel=>exact⟨k+1,n*10+(y-48),by omega,by go_num,by go_num,HST4.out⟩
       case measure=>simp[intOf];omega
      case' neg =>
       have HST:Hid (Stop l k):=fun _ _=>rJ (by have:=HY.out;omega)
       rcases Int.lt_or_le y 48 with hd1|hd1
       case' inr=>have hd2:57<y:=by omega
       all_goals clear hd
     all_goals
      by_cases hyd:y=46
      case' neg =>
       have HNO:Hid (l[k]?≠some 46):=by rw[Hid,List.getElem?_eq_getElem hkl];intro e;injection e with e;have:=HY.out;rw[e] at this;exact hyd (by have e2:(46:UInt8).toNat=46:=rfl;omega)
       have hydb:(y == 46)=false:=beq_eq_false_iff_ne.2 hyd;clear hyd
      case pos =>
       first
       | (exfalso;omega)
       | (
        have hyd2:y=46:=hyd;subst hyd2;have hkk:k<s.size:=hlt;have HDOT:Hid (l[k]?=some 46):=by show _=_;rw[List.getElem?_eq_getElem hkl];congr 1;exact UInt8.toNat_inj.1 (by have:=HY.out;have e:(46:UInt8).toNat=46:=rfl;omega)
        go_wp2_with fail
        go_loop [7,8,9,10] (fun q1 q2 q3 q4=>∃ (i j:Nat) (p sc:Int),q1= .int .i64 i/\q2= .int .i64 p/\q3= .int .i64 sc/\q4= .int .i64 j/\j<=4/\i<=s.size/\Hid (i=k+1+j)/\Hid (E2 (l.drop (k+1)) j p sc)) (fun _ _ _ q=>4-(intOf q).toNat)
        case atStart=>exact⟨k+1,0,0,10000,by go_num,rfl,rfl,rfl,by omega,by omega,rfl,E2.start _⟩
        case round =>
         obtain⟨i,j,p,sc,rfl,rfl,rfl,rfl,hj4,hi,hij,he2⟩:=hrel;obtain⟨p0,p1,s0,s1⟩:=he2.out.bd;obtain⟨n0,n1⟩:=he.out.bd;have i0:(0:Int)<=(i:Int):=by omega
         have j0:(0:Int)<=(j:Int):=by omega
         have HD:Hid ((l.drop (k+1)).length=s.size-(k+1)):=by show _=_;rw[List.length_drop,HBS.out]
         by_cases hj:j<4
         case' neg =>
          have hjI:(4:Int)<=(j:Int):=by omega
          have HST2:Hid (Stop (l.drop (k+1)) j):=fun _ h=>absurd h hj
         case' pos =>
          have hjI:(j:Int)<4:=by omega
          by_cases hib:i<s.size
          case' neg =>
           have hibI:(s.size:Int)<=(i:Int):=by omega
           have HST2:Hid (Stop (l.drop (k+1)) j):=fun h _=>by exfalso;have h1:=HD.out;have h2:=hij.out;omega
          case' pos =>
           have hibI:(i:Int)<(s.size:Int):=by omega
           have hDl:j<(l.drop (k+1)).length:=by have h1:=HD.out;have h2:=hij.out;omega
           obtain⟨hil,hbi⟩:=jY l HB.out i hib;obtain⟨z,hz⟩:∃ z:Int,(s[i].toNat:Int)=z:=⟨_,rfl⟩;have HZ:Hid (((l.drop (k+1))[j].toNat:Int)=z):=by
            show _=_
            rw[<-hz,<-hbi,List.getElem_drop]
            congr 3
            exact hij.out.symm
           clear hbi
           by_cases hd:48<=z/\z<=57
           case pos =>
            obtain⟨z0,z1⟩:=hd;obtain⟨s2,h10,hs2,hs3,hs4,hs5⟩:=he2.out.sc hj;have hst:=he2.out.step hDl hj (rK (by have:=HZ.out;omega)) hs2 hs3
            rw[HZ.out] at hst;have hm:0<=s2*(z-48)/\s2*(z-48)<=1000*9:=⟨Int.mul_nonneg (by omega) (by omega),Int.mul_le_mul (by omega) (by omega) (by omega) (by omega)⟩
            have q1:=IntWalk.i64_in (s2*(z-48)) (by omega)
            have q2:=IntWalk.i64_in (p+s2*(z-48)) (by omega)
            have hs0:0<=sc:=by omega
            have HST4:=Qh hst;have HIJ:=Qh (show i+1=k+1+(j+1) by have:=hij.out;omega)
            clear hst hs2 hs3 hij he2 hm;go_wp2
            go_round
            case rel=>exact⟨i+1,j+1,_,s2,by go_num,rfl,by rw[h10],by go_num,by omega,by omega,HIJ.out,HST4.out⟩
            case measure=>simp[intOf];omega
           case' neg =>
            have HST2:Hid (Stop (l.drop (k+1)) j):=fun _ _=>rJ (by have:=HZ.out;omega)
            clear HZ;rcases Int.lt_or_le z 48 with hd1|hd1
            case' inr=>have hd2:57<z:=by omega
            all_goals clear hd
         all_goals
          have HE3:Hid (E3 l (n*16+p/625)):=⟨k,n,he.out,HST.out,.inr ⟨HDOT.out,j,p,sc,he2.out,HST2.out,rfl⟩⟩;have r0:0<=p/625:=by omega
          have r1:=IntWalk.i64_in (n*16) (by omega)
          have r2:=IntWalk.i64_in (n*16+p/625) (by omega)
          obtain⟨v,hv⟩:∃ v,v=(n*16+p/625)%4096:=⟨_,rfl⟩;have hv0:0<=v/\v<=4095:=by rw[hv];omega
          have HVV:=Qh hv;have HNN:Hid (∀ x,0<=x->x<=4095->fx x=l->v=x):=fun x h0 h1 e=>by rw[HVV.out];exact E3.pos HLT.out HB45.out HE3.out x h0 h1 e
          clear hv HE3
          go_wp2_with fail
          refine Qc (bG (n*16+p/625) w) ?_;rw[<-HVV.out]
          go_wp2_with fail
          refine(dM v hv0 w).mono ?_;rintro e w2 ⟨rfl,hb2⟩;have HB2:=Qh hb2;clear hb2
          by_cases hf:fx v=l
          ·have hR:=Qh (RF.yes hv0 hf);have hne:((bs (fx v)).toList == s.toList)=true:=by rw[<-Go.beq_toListBytes,jo,HS.out,hf]
           clear hf;go_wp2
           go_ret2
           exact⟨v,true,rfl,hR.out,HB2.out⟩
          ·have hR:=Qh (RF.noS HNN.out hf);have hne:((bs (fx v)).toList == s.toList)=false:=by rw[<-Go.beq_toListBytes];exact iE (fun e=>hf (gU (by rw[<-HS.out];exact e)))
           clear hf;go_wp2
           go_ret2
           exact⟨0,false,rfl,hR.out,HB2.out⟩)
    all_goals
     have HE3:Hid (E3 l (n*16)):=⟨k,n,he.out,HST.out,.inl ⟨HNO.out,rfl⟩⟩;have r1:=IntWalk.i64_in (n*16) (by omega)
     obtain⟨v,hv⟩:∃ v,v=(n*16)%4096:=⟨_,rfl⟩;have hv0:0<=v/\v<=4095:=by rw[hv];omega
     have HVV:=Qh hv;have HNN:Hid (∀ x,0<=x->x<=4095->fx x=l->v=x):=fun x h0 h1 e=>by rw[HVV.out];exact E3.pos HLT.out HB45.out HE3.out x h0 h1 e
     clear hv HE3
     go_wp2_with fail
     refine Qc (bG (n*16) w) ?_;rw[<-HVV.out]
     go_wp2_with fail
     refine(dM v hv0 w).mono ?_;rintro e w2 ⟨rfl,hb2⟩;have HB2:=Qh hb2;clear hb2
     by_cases hf:fx v=l
     ·have hR:=Qh (RF.yes hv0 hf);have hne:((bs (fx v)).toList == s.toList)=true:=by rw[<-Go.beq_toListBytes,jo,HS.out,hf]
      clear hf;go_wp2
      go_ret2
      exact⟨v,true,rfl,hR.out,HB2.out⟩
     ·have hR:=Qh (RF.noS HNN.out hf);have hne:((bs (fx v)).toList == s.toList)=false:=by rw[<-Go.beq_toListBytes];exact iE (fun e=>hf (gU (by rw[<-HS.out];exact e)))
      clear hf;go_wp2
      go_ret2
      exact⟨0,false,rfl,hR.out,HB2.out⟩
def Rq (l:List UInt8) (w wr:World) (cs:Array Value) (A:Option Addr) (n cap:Nat) (vs:List Int) (Aw:Option Addr) (cw:Nat):Prop :=
 Blk wr w.heap.size 37 ZZ3/\Blk wr (w.heap.size+1) 37 cs/\OS wr w.heap.size A n cap vs/\VO wr w.heap.size 9 1 Aw (Lib.split l [32]).length cw (strs (Lib.split l [32]))/\Below w.heap.size w wr
def Rs (l:List UInt8) (w wr:World) (ro ga:Nat) (A:Option Addr) (n cap:Nat) (vs:List Int) (Aw:Option Addr) (cw:Nat):Prop:=Rq l w wr #[.int .i64 (ro:Int),.int .i64 (ga:Int),.slice A n cap] A n cap vs Aw cw
theorem Rq.below {l:List UInt8} {w wr w1:World} {cs:Array Value} {A Aw:Option Addr} {n cap cw:Nat} {vs:List Int} (h:Rq l w wr cs A n cap vs Aw cw) (hb:Below wr.heap.size wr w1):Rq l w w1 cs A n cap vs Aw cw:=by
 obtain⟨h1,h2,h3,h4,h5⟩:=h
 exact⟨h1.aa hb,h2.aa hb,h3.below hb,h4.below hb,bp hb h5.size h5⟩
theorem Rs.below {l:List UInt8} {w wr w1:World} {ro ga:Nat} {A Aw:Option Addr} {n cap cw:Nat} {vs:List Int} (h:Rs l w wr ro ga A n cap vs Aw cw) (hb:Below wr.heap.size wr w1):Rs l w w1 ro ga A n cap vs Aw cw:=Rq.below h hb
theorem Rq.set {l:List UInt8} {w wr:World} {cs:Array Value} {A Aw:Option Addr} {n cap cw:Nat} {vs:List Int} (h:Rq l w wr cs A n cap vs Aw cw) (i:Nat) (u:Value):Rq l w (wr.setCell ⟨w.heap.size+1,i,none⟩ u) (cs.setIfInBounds i u) A n cap vs Aw cw:=by
 obtain⟨h1,h2,h3,h4,h5⟩:=h
 exact⟨h1.far (p:=⟨w.heap.size+1,i,none⟩) (by dsimp only;omega) _,h2.dc i u,h3.dk h2 (by decide) _,h4.far (p:=⟨w.heap.size+1,i,none⟩) (h4.gu h2 (by decide)) _,h5.setCell (by dsimp only;omega) _⟩
theorem Rs.push {l:List UInt8} {w wr w1:World} {ro ga k cap g cap' cw:Nat} {A Aw:Option Addr} {vs:List Int} {v:Int} {o:Obj} (h:Rs l w wr ro ga A k cap vs Aw cw)
  (hown:w1.ownsRow w.heap.size 3 1 (.slice (some ⟨g,0,none⟩) (k+1) cap') (k+1) (vs.map (Value.int .i64)++[.int .i64 v])) (hg:(wr.alloc o).grownBy w1 (Value.slice A k cap).ownBlock)
  (hat:(Value.slice A k cap).ownBlock=some g\/g=wr.heap.size+1):Rq l w w1 #[.int .i64 (ro:Int),.int .i64 (ga:Int),.slice A k cap] (some ⟨g,0,none⟩) (k+1) cap' (vs++[v]) Aw cw:=by
 obtain⟨h1,h2,h3,h4,h5⟩:=h;obtain⟨k1,k2,k3,_⟩:=fS h3 h5 h5.size hown hg hat
 exact⟨h1.bR k3 (bf h3 h1 (by decide)),h2.bR k3 (bf h3 h2 (by decide)),k1,h4.bR k3 (mZ h4 h3 (by decide)),k2⟩
theorem qy (l:List UInt8) (hl:l.length<=1048576) (w:World):Calls prog 42 #[.string (bs l)] w (RMx l w):=by
 have HL:=Qh hl;obtain⟨u2,hu2⟩:∃ u,u=(w.alloc (.cells ZZ3 37)).alloc (.cells #[.int .i64 1,.int .i64 0,.slice none 0 0] 37):=⟨_,rfl⟩;have HO2:Hid (Below w.heap.size w u2):=by rw[hu2];exact(Qb.alloc Ql _).alloc (by simp) _
 have HB0:Hid (Blk u2 w.heap.size 37 ZZ3):=by rw[hu2];exact(Blk.new w _ _).alloc _
 have HB1:Hid (Blk u2 (w.heap.size+1) 37 #[.int .i64 1,.int .i64 0,.slice none 0 0]):=by
  rw[hu2];have h:=Blk.new (w.alloc (.cells ZZ3 37)) 37 #[.int .i64 1,.int .i64 0,.slice none 0 0]
  show Blk _ _ _ _
  simpa using h
 clear hl
 go_enter func42,ntmps42
 go_wp2_with fail
 rw[<-hu2];clear hu2;refine(tp l (Nat.le_trans HL.out (by omega)) u2).mono ?_
 rintro e w1 ⟨⟨Aw,cw,rfl,hv⟩,hb⟩;have HRS:Hid (Rs l w w1 1 0 none 0 0 [] Aw cw):=⟨HB0.out.aa hb,HB1.out.aa hb,OS.nil _ _,hv.mono HO2.out.size,bp hb HO2.out.size HO2.out⟩;have HPL:Hid ((Lib.split l [32]).length<=1048578):=by
  have h:=lR [32] (by simp) _ l (Nat.lt_succ_self _)
  have h2:=Lib.count_le l [32];have h3:=HL.out
  show _<=_
  omega
 obtain⟨p,hp⟩:∃ p,p=(Lib.split l [32]).length:=⟨_,rfl⟩;rw[<-hp];have HP:=Qh hp;clear hv hb hp
 go_wp2_with fail
 go_loopw [6] (fun q1 wr=>∃ (k ro ga cap:Nat) (A:Option Addr) (vs:List Int),k<=p/\q1= .int .i64 k/\ro<=k+1/\k<=25/\Hid (Ex l k vs ro ga)/\Hid (vs.length=k)/\Hid (Rs l w wr ro ga A k cap vs Aw cw)) (fun q1 _=>p-(intOf q1).toNat)
 case atStart=>exact⟨0,1,0,0,none,[],Nat.zero_le _,rfl,by omega,by omega,Ex.start l,rfl,HRS⟩
 case round =>
  obtain⟨k,ro,ga,cap,A,vs,hk,rfl,hro,hk25,hex,hvl,hrs⟩:=hrel;obtain⟨wo,rfl⟩:∃ u:World,u=wr:=⟨_,rfl⟩;have k0:(0:Int)<=(k:Int):=by omega
  have hpI:p<=1048578:=by rw[HP.out];exact HPL.out
  by_cases hlt:k<p
  ·have k1:(k:Int)<(p:Int):=by omega
   have HK:Hid (k<(Lib.split l [32]).length):=by rw[<-HP.out];exact hlt
   obtain⟨wd,hwd⟩:∃ x,x=(Lib.split l [32]).getD k []:=⟨_,rfl⟩;obtain⟨gw,rfl,_,_⟩:=hrs.out.2.2.2.1.pos (by have:=HK.out;omega)
   obtain⟨b,hb⟩:∃ b,b=bs wd:=⟨_,rfl⟩;have cx:wo.cell? ⟨gw,k,none⟩=some (.string b):=by rw[hrs.out.2.2.2.1.cell k (by have:=HK.out;omega),hb,hwd];exact jh HK.out
   have HWD:=Qh hwd;have HWL:Hid (wd.length<=1048576):=by
    show _<=_
    rw[HWD.out]
    exact Nat.le_trans (bX (by simp) (eS HK.out)) HL.out
   have hbs:b.size=wd.length:=by rw[hb,aK]
   have HB:=Qh hb;clear hwd hb;rcases List.eq_nil_or_concat wd with hnil|⟨wi,c,hcat⟩
   ·have hz:b.toList.isEmpty=true:=by rw[mm];exact(jo _ _).2 (by rw[HB.out,hnil];rfl)
    have hb0:b=bs []:=by rw[HB.out,hnil]
    have HSW:Hid (sw ((Lib.split l [32]).getD k [])=[]):=by show _=_;rw[<-HWD.out,hnil];rfl
    rw[hb0] at cx hz;clear hbs hnil hb0
    go_wp2_with fail
    refine(iP [] (by simp) wo).mono ?_
    rintro e w3 ⟨v,ok,rfl,hrf,hb3⟩;have HR3:=Qh (hrs.out.below hb3);have hok:ok=false:=by
     rcases hrf with⟨_,_,h⟩|⟨h,_⟩
     ·exact absurd h (y9 v)
     ·exact h
    subst hok;have HRF:=Qh hrf;clear hb3 hrf;have zl:w.heap.size<w3.heap.size:=HR3.out.1.lt;have z0:w3.cell? ⟨w.heap.size,0,none⟩=some (.int .i64 0):=HR3.out.1.cell 0;have z1:w3.cell? ⟨w.heap.size,1,none⟩=some (.int .i64 0):=HR3.out.1.cell 1;have z2:w3.cell? ⟨w.heap.size,2,none⟩=some (.slice none 0 0):=HR3.out.1.cell 2;have y0:w3.frozen? ⟨w.heap.size,0,none⟩=false:=HR3.out.1.frozen 0;have y1:w3.frozen? ⟨w.heap.size,1,none⟩=false:=HR3.out.1.frozen 1;have y2:w3.frozen? ⟨w.heap.size,2,none⟩=false:=HR3.out.1.frozen 2;have HBAD:=Qh (hex.out.E9 HK.out (by rw[HSW.out];exact HRF.out))
    go_wp2
    exact bodyPost_ret (v:= .tuple #[MV 0 0 none 0 0,.bool false]) (by simp[results,results42,go_sem,z0,z1,z2,y0,y1,y2,zl]) rfl (RMx.no HBAD.out (((HR3.out.2.2.2.2.setCell Ql _).setCell Ql _).setCell Ql _))
   ·rw[List.concat_eq_append] at hcat;obtain⟨z,hz1⟩:∃ z,b.size=z+1:=⟨wi.length,by rw[hbs,hcat];simp⟩
    have hz:b.toList.isEmpty=false:=by rw[mm];exact iE (fun e=>by rw[e] at hz1;exact absurd hz1 (by show ¬0=z+1;omega))
    have hzl:wi.length=z:=by rw[hbs,hcat] at hz1;simpa using hz1
    have hzlt:z<b.size:=by omega
    obtain⟨hkl,hbk⟩:=jY wd HB.out z hzlt;have hcz:wd[z]=c:=by
     have:wd[z]?=some c:=by rw[hcat,<-hzl];simp
     rw[List.getElem?_eq_getElem hkl] at this;injection this
    obtain⟨y,hy⟩:∃ y:Int,(b[z].toNat:Int)=y:=⟨_,rfl⟩;have hyc:(c.toNat:Int)=y:=by rw[<-hy,<-hbk,hcz]
    have HWI:Hid (wi.length<=1048576):=by show _<=_;have:=HWL.out;rw[hcat,List.length_append] at this;omega
    have HCAT:=Qh hcat;have z0:(0:Int)<=(z:Int):=by omega
    have zI:(z:Int)<=1048576:=by have:=HWL.out;omega
    by_cases hy59:y=59
    ·have hc59:c=59:=UInt8.toNat_inj.1 (by have e:(59:UInt8).toNat=59:=rfl;omega)
     have HE:Hid (ed ((Lib.split l [32]).getD k [])=true):=by show _=_;rw[<-HWD.out,hcat,hc59];exact pT _
     have HSW:Hid (sw ((Lib.split l [32]).getD k [])=wi):=by show _=_;rw[<-HWD.out,hcat,hc59];exact uA _
     have hext:b.extract 0 z=bs wi:=by
      have h:(b.extract 0 z).data.toList=wi:=by
       rw[Lib.extract_from_zero,HB.out,xD,hcat,<-hzl,List.take_left]
      rw[<-fe (b.extract 0 z),h]
     clear hbs hcat hzl hkl hbk hcz hyc hc59;subst hy59;clear z0;have z0':(0:Int)<=(z:Int):=by omega
     go_wp2_with fail
     refine(iP wi HWI.out wo).mono ?_;clear z0';rintro e w3 ⟨v,ok,rfl,hrf,hb3⟩;have HR3:=Qh (hrs.out.below hb3);have HRF:=Qh hrf;clear hb3 hrf
     cases ok
     ·have zl:w.heap.size<w3.heap.size:=HR3.out.1.lt;have z0:w3.cell? ⟨w.heap.size,0,none⟩=some (.int .i64 0):=HR3.out.1.cell 0;have z1:w3.cell? ⟨w.heap.size,1,none⟩=some (.int .i64 0):=HR3.out.1.cell 1;have z2:w3.cell? ⟨w.heap.size,2,none⟩=some (.slice none 0 0):=HR3.out.1.cell 2;have y0:w3.frozen? ⟨w.heap.size,0,none⟩=false:=HR3.out.1.frozen 0;have y1:w3.frozen? ⟨w.heap.size,1,none⟩=false:=HR3.out.1.frozen 1;have y2:w3.frozen? ⟨w.heap.size,2,none⟩=false:=HR3.out.1.frozen 2;have HBAD:=Qh (hex.out.E9 HK.out (by rw[HSW.out];exact HRF.out))
      go_wp2
      exact bodyPost_ret (v:= .tuple #[MV 0 0 none 0 0,.bool false]) (by simp[results,results42,go_sem,z0,z1,z2,y0,y1,y2,zl]) rfl (RMx.no HBAD.out (((HR3.out.2.2.2.2.setCell Ql _).setCell Ql _).setCell Ql _))
     ·by_cases h25:25<=k
      ·have h25I:(25:Int)<=(k:Int):=by omega
       have gl:w.heap.size+1<w3.heap.size:=HR3.out.2.1.lt;have g0:w3.cell? ⟨w.heap.size+1,0,none⟩=some (.int .i64 (ro:Int)):=HR3.out.2.1.cell 0;have g1:w3.cell? ⟨w.heap.size+1,1,none⟩=some (.int .i64 (ga:Int)):=HR3.out.2.1.cell 1;have g2:w3.cell? ⟨w.heap.size+1,2,none⟩=some (.slice A k cap):=HR3.out.2.1.cell 2;have h0:w3.frozen? ⟨w.heap.size+1,0,none⟩=false:=HR3.out.2.1.frozen 0;have h1:w3.frozen? ⟨w.heap.size+1,1,none⟩=false:=HR3.out.2.1.frozen 1;have h2:w3.frozen? ⟨w.heap.size+1,2,none⟩=false:=HR3.out.2.1.frozen 2;have zl:w.heap.size<w3.heap.size:=HR3.out.1.lt;have z0:w3.cell? ⟨w.heap.size,0,none⟩=some (.int .i64 0):=HR3.out.1.cell 0;have z1:w3.cell? ⟨w.heap.size,1,none⟩=some (.int .i64 0):=HR3.out.1.cell 1;have z2:w3.cell? ⟨w.heap.size,2,none⟩=some (.slice none 0 0):=HR3.out.1.cell 2;have y0:w3.frozen? ⟨w.heap.size,0,none⟩=false:=HR3.out.1.frozen 0;have y1:w3.frozen? ⟨w.heap.size,1,none⟩=false:=HR3.out.1.frozen 1;have y2:w3.frozen? ⟨w.heap.size,2,none⟩=false:=HR3.out.1.frozen 2;have ne1:¬w.heap.size=w.heap.size+1:=by omega
       have HBAD:=Qh (hex.out.Bv HK.out (by rw[hvl.out];exact h25))
       go_wp2
       exact bodyPost_ret (v:= .tuple #[MV 0 0 none 0 0,.bool false]) (by simp[results,results42,go_sem,z0,z1,z2,y0,y1,y2,zl,ne1]) rfl (RMx.no HBAD.out (((HR3.out.2.2.2.2.setCell Ql _).setCell Ql _).setCell Ql _))
      ·have h25I:(k:Int)<25:=by omega
       have gl:w.heap.size+1<w3.heap.size:=HR3.out.2.1.lt;have g0:w3.cell? ⟨w.heap.size+1,0,none⟩=some (.int .i64 (ro:Int)):=HR3.out.2.1.cell 0;have g1:w3.cell? ⟨w.heap.size+1,1,none⟩=some (.int .i64 (ga:Int)):=HR3.out.2.1.cell 1;have g2:w3.cell? ⟨w.heap.size+1,2,none⟩=some (.slice A k cap):=HR3.out.2.1.cell 2;have h0:w3.frozen? ⟨w.heap.size+1,0,none⟩=false:=HR3.out.2.1.frozen 0;have h1:w3.frozen? ⟨w.heap.size+1,1,none⟩=false:=HR3.out.2.1.frozen 1;have h2:w3.frozen? ⟨w.heap.size+1,2,none⟩=false:=HR3.out.2.1.frozen 2;have hsz:w.heap.size<=w3.heap.size:=HR3.out.2.2.2.2.size;obtain⟨i0',hi,hz0,hz1,hz2⟩:=info_parts eU
       go_wp2_with (at_builtin;refine wpList_append_lies _ rfl _ _ 35 rfl w.heap.size 3 i0' (.int .i64 0) 1 8 underlying35 hi hz0 hz1 hz2 rfl (by decide) (.slice A k cap) k _ rfl (World.ownsRow.alloc HR3.out.2.2.1 _) ⟨w3.heap.size,0,none⟩ 1 1 [.int .i64 v] rfl rfl ?c1 ?c2 ?c3 ?c4 ?c5 ?c6 (w3.heap.size+1) ?c7 ?_)
       case c1=>exact fk _ _ _
       case c2=>simp[Value.oneCell']
       case c3=>omega
       case c4=>unfold maxLen;omega
       case c5=>omega
       case c6=>simp;omega
       case c7=>simp
       intro g cap' w4 hown hgrow hat _;have HR4:=Qh (HR3.out.push hown hgrow hat);have hb4:=HR4.out.2.1;clear gl g0 g1 g2 h0 h1 h2;have gl:w.heap.size+1<w4.heap.size:=hb4.lt;have g0:w4.cell? ⟨w.heap.size+1,0,none⟩=some (.int .i64 (ro:Int)):=hb4.cell 0;have g1:w4.cell? ⟨w.heap.size+1,1,none⟩=some (.int .i64 (ga:Int)):=hb4.cell 1;have g2:w4.cell? ⟨w.heap.size+1,2,none⟩=some (.slice A k cap):=hb4.cell 2;have h0:w4.frozen? ⟨w.heap.size+1,0,none⟩=false:=hb4.frozen 0;have h1:w4.frozen? ⟨w.heap.size+1,1,none⟩=false:=hb4.frozen 1;have h2:w4.frozen? ⟨w.heap.size+1,2,none⟩=false:=hb4.frozen 2;have HEX:=Qh (hex.out.step HK.out (by rw[HSW.out];exact HRF.out))
       have HED:Hid (ed ((Lib.split l [32]).getD k [])=true):=HE;have HVL:Hid ((vs++[v]).length=k+1):=by show _=_;rw[List.length_append,hvl.out];rfl
       clear hown hgrow hat hb4 hrs hex hsz
       by_cases hr1:ro=1
       ·have hrI:((ro:Int) == 1)=true:=by rw[hr1];rfl
        have HEX2:Hid (Ex l (k+1) (vs++[v]) (ro+1) (k+1)):=by
         have h:=HEX.out;rw[HED.out,if_pos rfl,if_pos hr1] at h
         exact h
        have HR5:Hid (Rs l w (((w4.setCell ⟨w.heap.size+1,2,none⟩ (.slice (some ⟨g,0,none⟩) (k+1) cap')).setCell ⟨w.heap.size+1,1,none⟩ (.int .i64 ((k:Int)+1))).setCell ⟨w.heap.size+1,0,none⟩ (.int .i64 ((ro:Int)+1))) (ro+1) (k+1) (some ⟨g,0,none⟩) (k+1) cap' (vs++[v]) (some ⟨gw,0,none⟩) cw):=by
         have h:=((HR4.out.set 2 (.slice (some ⟨g,0,none⟩) (k+1) cap')).set 1 (.int .i64 ((k+1:Nat):Int))).set 0 (.int .i64 ((ro+1:Nat):Int))
         exact h
        clear HR4 HEX HED hr1;go_wp2
        go_roundw
        case rel=>exact⟨k+1,ro+1,k+1,cap',some ⟨g,0,none⟩,vs++[v],by omega,by go_num,by omega,by omega,HEX2,HVL,HR5⟩
        case measure=>simp[intOf];omega
       ·have hrI:((ro:Int) == 1)=false:=by simp;omega
        have HEX2:Hid (Ex l (k+1) (vs++[v]) (ro+1) ga):=by
         have h:=HEX.out;rw[HED.out,if_pos rfl,if_neg hr1] at h
         exact h
        have HR5:Hid (Rs l w ((w4.setCell ⟨w.heap.size+1,2,none⟩ (.slice (some ⟨g,0,none⟩) (k+1) cap')).setCell ⟨w.heap.size+1,0,none⟩ (.int .i64 ((ro:Int)+1))) (ro+1) ga (some ⟨g,0,none⟩) (k+1) cap' (vs++[v]) (some ⟨gw,0,none⟩) cw):=by
         have h:=(HR4.out.set 2 (.slice (some ⟨g,0,none⟩) (k+1) cap')).set 0 (.int .i64 ((ro+1:Nat):Int))
         exact h
        clear HR4 HEX HED hr1;go_wp2
        go_roundw
        case rel=>exact⟨k+1,ro+1,ga,cap',some ⟨g,0,none⟩,vs++[v],by omega,by go_num,by omega,by omega,HEX2,HVL,HR5⟩
        case measure=>simp[intOf];omega
    ·have hc59:c≠59:=fun h=>hy59 (by rw[<-hyc,h];rfl)
     have HE:Hid (ed ((Lib.split l [32]).getD k [])=false):=by show _=_;rw[<-HWD.out,hcat];simp[ed,hc59]
     have HSW:Hid (sw ((Lib.split l [32]).getD k [])=wd):=by show _=_;have h:=HE.out;unfold sw;rw[h,<-HWD.out];rfl
     have hyb:(y == 59)=false:=beq_eq_false_iff_ne.2 hy59;have hbw:bs wd=b:=HB.out.symm;clear hbs hcat hzl hkl hbk hcz hyc hc59 hy59 z0;have z0':(0:Int)<=(z:Int):=by omega
     go_wp2_with fail
     rw[HB.out];refine(iP wd HWL.out wo).mono ?_;clear z0';rintro e w3 ⟨v,ok,rfl,hrf,hb3⟩;have HR3:=Qh (hrs.out.below hb3);have HRF:=Qh hrf;clear hb3 hrf
     cases ok
     ·have zl:w.heap.size<w3.heap.size:=HR3.out.1.lt;have z0:w3.cell? ⟨w.heap.size,0,none⟩=some (.int .i64 0):=HR3.out.1.cell 0;have z1:w3.cell? ⟨w.heap.size,1,none⟩=some (.int .i64 0):=HR3.out.1.cell 1;have z2:w3.cell? ⟨w.heap.size,2,none⟩=some (.slice none 0 0):=HR3.out.1.cell 2;have y0:w3.frozen? ⟨w.heap.size,0,none⟩=false:=HR3.out.1.frozen 0;have y1:w3.frozen? ⟨w.heap.size,1,none⟩=false:=HR3.out.1.frozen 1;have y2:w3.frozen? ⟨w.heap.size,2,none⟩=false:=HR3.out.1.frozen 2;have HBAD:=Qh (hex.out.E9 HK.out (by rw[HSW.out];exact HRF.out))
      go_wp2
      exact bodyPost_ret (v:= .tuple #[MV 0 0 none 0 0,.bool false]) (by simp[results,results42,go_sem,z0,z1,z2,y0,y1,y2,zl]) rfl (RMx.no HBAD.out (((HR3.out.2.2.2.2.setCell Ql _).setCell Ql _).setCell Ql _))
     ·by_cases h25:25<=k
      ·have h25I:(25:Int)<=(k:Int):=by omega
       have gl:w.heap.size+1<w3.heap.size:=HR3.out.2.1.lt;have g0:w3.cell? ⟨w.heap.size+1,0,none⟩=some (.int .i64 (ro:Int)):=HR3.out.2.1.cell 0;have g1:w3.cell? ⟨w.heap.size+1,1,none⟩=some (.int .i64 (ga:Int)):=HR3.out.2.1.cell 1;have g2:w3.cell? ⟨w.heap.size+1,2,none⟩=some (.slice A k cap):=HR3.out.2.1.cell 2;have h0:w3.frozen? ⟨w.heap.size+1,0,none⟩=false:=HR3.out.2.1.frozen 0;have h1:w3.frozen? ⟨w.heap.size+1,1,none⟩=false:=HR3.out.2.1.frozen 1;have h2:w3.frozen? ⟨w.heap.size+1,2,none⟩=false:=HR3.out.2.1.frozen 2;have zl:w.heap.size<w3.heap.size:=HR3.out.1.lt;have z0:w3.cell? ⟨w.heap.size,0,none⟩=some (.int .i64 0):=HR3.out.1.cell 0;have z1:w3.cell? ⟨w.heap.size,1,none⟩=some (.int .i64 0):=HR3.out.1.cell 1;have z2:w3.cell? ⟨w.heap.size,2,none⟩=some (.slice none 0 0):=HR3.out.1.cell 2;have y0:w3.frozen? ⟨w.heap.size,0,none⟩=false:=HR3.out.1.frozen 0;have y1:w3.frozen? ⟨w.heap.size,1,none⟩=false:=HR3.out.1.frozen 1;have y2:w3.frozen? ⟨w.heap.size,2,none⟩=false:=HR3.out.1.frozen 2;have ne1:¬w.heap.size=w.heap.size+1:=by omega
       have HBAD:=Qh (hex.out.Bv HK.out (by rw[hvl.out];exact h25))
       go_wp2
       exact bodyPost_ret (v:= .tuple #[MV 0 0 none 0 0,.bool false]) (by simp[results,results42,go_sem,z0,z1,z2,y0,y1,y2,zl,ne1]) rfl (RMx.no HBAD.out (((HR3.out.2.2.2.2.setCell Ql _).setCell Ql _).setCell Ql _))
      ·have h25I:(k:Int)<25:=by omega
       have gl:w.heap.size+1<w3.heap.size:=HR3.out.2.1.lt;have g0:w3.cell? ⟨w.heap.size+1,0,none⟩=some (.int .i64 (ro:Int)):=HR3.out.2.1.cell 0;have g1:w3.cell? ⟨w.heap.size+1,1,none⟩=some (.int .i64 (ga:Int)):=HR3.out.2.1.cell 1;have g2:w3.cell? ⟨w.heap.size+1,2,none⟩=some (.slice A k cap):=HR3.out.2.1.cell 2;have h0:w3.frozen? ⟨w.heap.size+1,0,none⟩=false:=HR3.out.2.1.frozen 0;have h1:w3.frozen? ⟨w.heap.size+1,1,none⟩=false:=HR3.out.2.1.frozen 1;have h2:w3.frozen? ⟨w.heap.size+1,2,none⟩=false:=HR3.out.2.1.frozen 2;have hsz:w.heap.size<=w3.heap.size:=HR3.out.2.2.2.2.size;obtain⟨i0',hi,hz0,hz1,hz2⟩:=info_parts eU
       go_wp2_with (at_builtin;refine wpList_append_lies _ rfl _ _ 35 rfl w.heap.size 3 i0' (.int .i64 0) 1 8 underlying35 hi hz0 hz1 hz2 rfl (by decide) (.slice A k cap) k _ rfl (World.ownsRow.alloc HR3.out.2.2.1 _) ⟨w3.heap.size,0,none⟩ 1 1 [.int .i64 v] rfl rfl ?c1 ?c2 ?c3 ?c4 ?c5 ?c6 (w3.heap.size+1) ?c7 ?_)
       case c1=>exact fk _ _ _
       case c2=>simp[Value.oneCell']
       case c3=>omega
       case c4=>unfold maxLen;omega
       case c5=>omega
       case c6=>simp;omega
       case c7=>simp
       intro g cap' w4 hown hgrow hat _;have HR4:=Qh (HR3.out.push hown hgrow hat);have hb4:=HR4.out.2.1;clear gl g0 g1 g2 h0 h1 h2;have gl:w.heap.size+1<w4.heap.size:=hb4.lt;have g0:w4.cell? ⟨w.heap.size+1,0,none⟩=some (.int .i64 (ro:Int)):=hb4.cell 0;have g1:w4.cell? ⟨w.heap.size+1,1,none⟩=some (.int .i64 (ga:Int)):=hb4.cell 1;have g2:w4.cell? ⟨w.heap.size+1,2,none⟩=some (.slice A k cap):=hb4.cell 2;have h0:w4.frozen? ⟨w.heap.size+1,0,none⟩=false:=hb4.frozen 0;have h1:w4.frozen? ⟨w.heap.size+1,1,none⟩=false:=hb4.frozen 1;have h2:w4.frozen? ⟨w.heap.size+1,2,none⟩=false:=hb4.frozen 2;have HEX:=Qh (hex.out.step HK.out (by rw[HSW.out];exact HRF.out))
       have HED:Hid (ed ((Lib.split l [32]).getD k [])=false):=HE;have HVL:Hid ((vs++[v]).length=k+1):=by show _=_;rw[List.length_append,hvl.out];rfl
       clear hown hgrow hat hb4 hrs hex hsz
       by_cases hr1:ro=1
       ·have hrI:((ro:Int) == 1)=true:=by rw[hr1];rfl
        have HEX2:Hid (Ex l (k+1) (vs++[v]) ro (k+1)):=by
         have h:=HEX.out;rw[HED.out,if_neg (by decide),if_pos hr1] at h
         exact h
        have HR5:Hid (Rs l w ((w4.setCell ⟨w.heap.size+1,2,none⟩ (.slice (some ⟨g,0,none⟩) (k+1) cap')).setCell ⟨w.heap.size+1,1,none⟩ (.int .i64 ((k:Int)+1))) ro (k+1) (some ⟨g,0,none⟩) (k+1) cap' (vs++[v]) (some ⟨gw,0,none⟩) cw):=by
         have h:=(HR4.out.set 2 (.slice (some ⟨g,0,none⟩) (k+1) cap')).set 1 (.int .i64 ((k+1:Nat):Int))
         exact h
        clear HR4 HEX HED hr1;go_wp2
        go_roundw
        case rel=>exact⟨k+1,ro,k+1,cap',some ⟨g,0,none⟩,vs++[v],by omega,by go_num,by omega,by omega,HEX2,HVL,HR5⟩
        case measure=>simp[intOf];omega
       ·have hrI:((ro:Int) == 1)=false:=by simp;omega
        have HEX2:Hid (Ex l (k+1) (vs++[v]) ro ga):=by
         have h:=HEX.out;rw[HED.out,if_neg (by decide),if_neg hr1] at h
         exact h
        have HR5:Hid (Rs l w (w4.setCell ⟨w.heap.size+1,2,none⟩ (.slice (some ⟨g,0,none⟩) (k+1) cap')) ro ga (some ⟨g,0,none⟩) (k+1) cap' (vs++[v]) (some ⟨gw,0,none⟩) cw):=by
         have h:=HR4.out.set 2 (.slice (some ⟨g,0,none⟩) (k+1) cap')
         exact h
        clear HR4 HEX HED hr1;go_wp2
        go_roundw
        case rel=>exact⟨k+1,ro,ga,cap',some ⟨g,0,none⟩,vs++[v],by omega,by go_num,by omega,by omega,HEX2,HVL,HR5⟩
        case measure=>simp[intOf];omega
  ·obtain rfl:k=p:=by omega
   have hkk:=HP.out;have HEX:Hid (Ex l (Lib.split l [32]).length vs ro ga):=by show _;rw[<-HP.out];exact hex.out
   have HOS:=Qh hrs.out.2.2.1;have gl:w.heap.size+1<wo.heap.size:=hrs.out.2.1.lt;have g0:wo.cell? ⟨w.heap.size+1,0,none⟩=some (.int .i64 (ro:Int)):=hrs.out.2.1.cell 0;have g1:wo.cell? ⟨w.heap.size+1,1,none⟩=some (.int .i64 (ga:Int)):=hrs.out.2.1.cell 1;have g2:wo.cell? ⟨w.heap.size+1,2,none⟩=some (.slice A k cap):=hrs.out.2.1.cell 2;have h0:wo.frozen? ⟨w.heap.size+1,0,none⟩=false:=hrs.out.2.1.frozen 0;have h1:wo.frozen? ⟨w.heap.size+1,1,none⟩=false:=hrs.out.2.1.frozen 1;have h2:wo.frozen? ⟨w.heap.size+1,2,none⟩=false:=hrs.out.2.1.frozen 2;clear hkk
   go_wp2_with fail
   refine(aM (ro:Int) (ga:Int) vs A k cap wo HOS.out.si (by omega)).mono ?_
   rintro e w3 ⟨rfl,hb3⟩;have HR3:=Qh (hrs.out.below hb3);clear hb3 gl g0 g1 g2 h0 h1 h2;have ne1:¬w.heap.size=w.heap.size+1:=by omega
   have ne2:¬w.heap.size+1=w.heap.size:=by omega
   cases hv:mvB ⟨(ro:Int),(ga:Int),vs⟩
   ·have zl:w.heap.size<w3.heap.size:=HR3.out.1.lt;have z0:w3.cell? ⟨w.heap.size,0,none⟩=some (.int .i64 0):=HR3.out.1.cell 0;have z1:w3.cell? ⟨w.heap.size,1,none⟩=some (.int .i64 0):=HR3.out.1.cell 1;have z2:w3.cell? ⟨w.heap.size,2,none⟩=some (.slice none 0 0):=HR3.out.1.cell 2;have y0:w3.frozen? ⟨w.heap.size,0,none⟩=false:=HR3.out.1.frozen 0;have y1:w3.frozen? ⟨w.heap.size,1,none⟩=false:=HR3.out.1.frozen 1;have y2:w3.frozen? ⟨w.heap.size,2,none⟩=false:=HR3.out.1.frozen 2;have HBAD:=Qh (HEX.out.fail (.inl hv));go_wp2
    exact bodyPost_ret (v:= .tuple #[MV 0 0 none 0 0,.bool false]) (by simp[results,results42,go_sem,z0,z1,z2,y0,y1,y2,zl]) rfl (RMx.no HBAD.out (((HR3.out.2.2.2.2.setCell Ql _).setCell Ql _).setCell Ql _))
   ·have HV:=Qh hv;clear hv;have gl:w.heap.size+1<w3.heap.size:=HR3.out.2.1.lt;have g0:w3.cell? ⟨w.heap.size+1,0,none⟩=some (.int .i64 (ro:Int)):=HR3.out.2.1.cell 0;have g1:w3.cell? ⟨w.heap.size+1,1,none⟩=some (.int .i64 (ga:Int)):=HR3.out.2.1.cell 1;have g2:w3.cell? ⟨w.heap.size+1,2,none⟩=some (.slice A k cap):=HR3.out.2.1.cell 2;have h0:w3.frozen? ⟨w.heap.size+1,0,none⟩=false:=HR3.out.2.1.frozen 0;have h1:w3.frozen? ⟨w.heap.size+1,1,none⟩=false:=HR3.out.2.1.frozen 1;have h2:w3.frozen? ⟨w.heap.size+1,2,none⟩=false:=HR3.out.2.1.frozen 2
    go_wp2_with fail
    refine(kM (ro:Int) (ga:Int) vs A k cap w3 HR3.out.2.2.1.si (by omega)).mono ?_
    rintro e w4 ⟨rfl,hb4⟩;have HR4:=Qh (HR3.out.below hb4);clear hb4 gl g0 g1 g2 h0 h1 h2;have zl:w.heap.size<w4.heap.size:=HR4.out.1.lt;have z0:w4.cell? ⟨w.heap.size,0,none⟩=some (.int .i64 0):=HR4.out.1.cell 0;have z1:w4.cell? ⟨w.heap.size,1,none⟩=some (.int .i64 0):=HR4.out.1.cell 1;have z2:w4.cell? ⟨w.heap.size,2,none⟩=some (.slice none 0 0):=HR4.out.1.cell 2;have y0:w4.frozen? ⟨w.heap.size,0,none⟩=false:=HR4.out.1.frozen 0;have y1:w4.frozen? ⟨w.heap.size,1,none⟩=false:=HR4.out.1.frozen 1;have y2:w4.frozen? ⟨w.heap.size,2,none⟩=false:=HR4.out.1.frozen 2;have gl:w.heap.size+1<w4.heap.size:=HR4.out.2.1.lt;have g0:w4.cell? ⟨w.heap.size+1,0,none⟩=some (.int .i64 (ro:Int)):=HR4.out.2.1.cell 0;have g1:w4.cell? ⟨w.heap.size+1,1,none⟩=some (.int .i64 (ga:Int)):=HR4.out.2.1.cell 1;have g2:w4.cell? ⟨w.heap.size+1,2,none⟩=some (.slice A k cap):=HR4.out.2.1.cell 2;have h0:w4.frozen? ⟨w.heap.size+1,0,none⟩=false:=HR4.out.2.1.frozen 0;have h1:w4.frozen? ⟨w.heap.size+1,1,none⟩=false:=HR4.out.2.1.frozen 1;have h2:w4.frozen? ⟨w.heap.size+1,2,none⟩=false:=HR4.out.2.1.frozen 2
    by_cases ht:mt ⟨(ro:Int),(ga:Int),vs⟩=l
    ·have hne:((bs (mt ⟨(ro:Int),(ga:Int),vs⟩)).toList == (bs l).toList)=true:=by rw[<-Go.beq_toListBytes,jo,ht]
     have HG:Hid (RMp l ⟨(ro:Int),(ga:Int),vs⟩ true):= .inl ⟨rfl,HV.out,ht⟩;have HNL:=Qh hvl.out;have hos:=HR4.out.2.2.1;have hbz:=HR4.out.1;have HOS2:=Qh (((hos.dk hbz (by decide) (.int .i64 (ro:Int)) (i:=0)).dk (hbz.dc 0 _) (by decide) (.int .i64 (ga:Int)) (i:=1)).dk ((hbz.dc 0 _).dc 1 _) (by decide) (.slice A k cap) (i:=2))
     clear hos hbz ht;go_wp2
     exact bodyPost_ret (v:= .tuple #[MV (ro:Int) (ga:Int) A k cap,.bool true]) (by simp[results,results42,go_sem,z0,z1,z2,y0,y1,y2,zl,g0,g1,g2,ne1,ne2]) rfl ⟨⟨(ro:Int),(ga:Int),vs⟩,true,A,cap,by dsimp only;rw[HNL.out],by dsimp only;rw[HNL.out];exact HOS2.out,HG.out,(((HR4.out.2.2.2.2.setCell Ql _).setCell Ql _).setCell Ql _)⟩
    ·have hne:((bs (mt ⟨(ro:Int),(ga:Int),vs⟩)).toList == (bs l).toList)=false:=by rw[<-Go.beq_toListBytes];exact iE (fun e=>ht (gU e))
     have HBAD:=Qh (HEX.out.fail (.inr ht));go_wp2
     exact bodyPost_ret (v:= .tuple #[MV 0 0 none 0 0,.bool false]) (by simp[results,results42,go_sem,z0,z1,z2,y0,y1,y2,zl,ne1,ne2]) rfl (RMx.no HBAD.out (((HR4.out.2.2.2.2.setCell Ql _).setCell Ql _).setCell Ql _))
end Go.Proofs.YtjciicheoghcdaaGreatDoor
