import Derived.Test.YtdffbihilhkkjaaGreatDoorZ3
namespace Go.Proofs.YtdffbihilhkkjaaGreatDoor
open Tl
set_option linter.unusedVariables false
set_option linter.unusedSimpArgs false
set_option maxRecDepth 100000
set_option maxHeartbeats 8000000
namespace Tl
def row:List (Nat×Nat)→List Nat
 | []=>[]
 | x::l=>le x.1 x.2++row l
theorem row_append (a b:List (Nat×Nat)):row (a++b)=row a++row b:=by
 induction a with
 | nil=>rfl
 | cons x a ih=>simp only [List.cons_append,row,ih,List.append_assoc]
theorem zG:∀ l:List (Nat×Nat),∀ x∈row l,x<256
 | []=>fun x h=>by cases h
 | y::l=>fun x h=>by
  simp only [row,List.mem_append] at h
  rcases h with h | h
  · exact le_small _ _ x h
  · exact zG l x h
def takes:In→List (Nat×Nat)→In×List Nat
 | s,[]=>(s,[])
 | s,x::l=>((takes (takeN s x.1 x.2).1 l).1,(takeN s x.1 x.2).2::(takes (takeN s x.1 x.2).1 l).2)
theorem takes_length:∀ (l:List (Nat×Nat)) (s:In),(takes s l).2.length=l.length
 | [],s=>rfl
 | x::l,s=>by simp [takes,takes_length l]
theorem takes_append:∀ (l m:List (Nat×Nat)) (s:In),takes s (l++m)=((takes (takes s l).1 m).1,(takes s l).2++(takes (takes s l).1 m).2)
 | [],m,s=>by simp [takes]
 | x::l,m,s=>by simp only [List.cons_append,takes,takes_append l m]
end Tl
namespace So
open Tl
def one (b:Bool):Nat:=if b then 1 else 0
structure Csr where
 status:Nat
 enable:Nat
 vector:Nat
 scratch:Nat
 epc:Nat
 cause:Nat
 value:Nat
 count:Nat
structure Hart where
 pc:Nat
 x:Nat→Nat
 wait:Bool
 c:Csr
structure Post where
 dev:Int
 at_:Nat
 n:Int
 value:Nat
structure Clint where
 soft:Nat
 time:Nat
 cmp:Nat
structure Plic where
 pri:Nat→Nat
 enable:Nat
 threshold:Nat
 pending:Nat
 busy:Nat
structure Fifo where
 b:Nat→Nat
 n:Int
structure Uart where
 rx:Fifo
 tx:Fifo
 ier:Nat
 lcr:Nat
 mcr:Nat
 scr:Nat
 dll:Nat
 dlm:Nat
 over:Bool
 wait:Int
structure Dma where
 code:Nat
 head:Nat
 at_:Nat
 steps:Nat
 moved:Nat
 have_:Bool
 from_:Nat
 to:Nat
 left:Nat
 next:Nat
 asks:Bool
structure Que where
 ready:Bool
 size:Int
 desc:Nat
 avail:Nat
 used:Nat
 last:Nat
 put:Nat
structure Virt where
 status:Nat
 feat:Nat
 drvsel:Nat
 sel:Nat
 irq:Nat
 drv0:Nat
 drv1:Nat
 q0:Que
 q1:Que
structure Seg where
 at_:Nat
 n:Int
 write:Bool
structure Req where
 id:Nat
 head:Int
 write:Bool
 sector:Nat
 n:Int
 l:List Seg
structure Blk where
 p:Virt
 sectors:Nat
 bell:Bool
 next:Nat
 ins:List Req
structure Nic where
 p:Virt
 bell:Bool
 lost:Nat
structure State where
 ticks:Nat
 h:Hart
 q:List Post
 c:Clint
 p:Plic
 u:Uart
 d:Dma
 b:Blk
 n:Nic
structure Config where
 pages:Int
 sectors:Nat
def Csr.Ok (s:Csr):Prop:=s.status<4294967296∧s.enable<4294967296∧s.vector<4294967296∧s.scratch<4294967296∧s.epc<4294967296∧s.cause<4294967296∧s.value<4294967296∧s.count<18446744073709551616
def Hart.Ok (s:Hart):Prop:=s.pc<4294967296∧(∀ i,s.x i<4294967296)∧s.c.Ok
def Post.Ok (s:Post):Prop:=s.at_<4294967296∧s.value<4294967296
def Clint.Ok (s:Clint):Prop:=s.soft<4294967296∧s.time<18446744073709551616∧s.cmp<18446744073709551616
def Plic.Ok (s:Plic):Prop:=(∀ i,s.pri i<4294967296)∧s.enable<4294967296∧s.threshold<4294967296∧s.pending<4294967296∧s.busy<4294967296
def Fifo.Ok (s:Fifo):Prop:=∀ i,s.b i<256
def Uart.Ok (s:Uart):Prop:=s.rx.Ok∧s.tx.Ok∧s.ier<256∧s.lcr<256∧s.mcr<256∧s.scr<256∧s.dll<256∧s.dlm<256
def Dma.Ok (s:Dma):Prop:=s.code<4294967296∧s.head<4294967296∧s.at_<4294967296∧s.steps<4294967296∧s.moved<4294967296∧s.from_<4294967296∧s.to<4294967296∧s.left<4294967296∧s.next<4294967296
def Que.Ok (s:Que):Prop:=s.desc<4294967296∧s.avail<4294967296∧s.used<4294967296∧s.last<65536∧s.put<65536
def Virt.Ok (s:Virt):Prop:=s.status<4294967296∧s.feat<4294967296∧s.drvsel<4294967296∧s.sel<4294967296∧s.irq<4294967296∧s.drv0<4294967296∧s.drv1<4294967296∧s.q0.Ok∧s.q1.Ok
def Seg.Ok (s:Seg):Prop:=s.at_<4294967296
def Req.Ok (s:Req):Prop:=s.id<4294967296∧s.sector<4294967296∧∀ x∈s.l,x.Ok
def Blk.Ok (s:Blk):Prop:=s.p.Ok∧s.sectors<4294967296∧s.next<4294967296∧∀ r∈s.ins,r.Ok
def Nic.Ok (s:Nic):Prop:=s.p.Ok∧s.lost<4294967296
def State.Ok (s:State):Prop:=s.ticks<18446744073709551616∧s.h.Ok∧(∀ p∈s.q,p.Ok)∧s.c.Ok∧s.p.Ok∧s.u.Ok∧s.d.Ok∧s.b.Ok∧s.n.Ok
def Config.Ok (s:Config):Prop:=s.sectors<4294967296
def w64 (x:Int):Nat:=(x%18446744073709551616).toNat
def w32 (x:Int):Nat:=(x%4294967296).toNat
def sConfig (c:Config):List Nat:=row [(4,w32 c.pages),(4,c.sectors)]
def sTicks (s:State):List Nat:=row [(8,s.ticks)]
def sRegs (h:Hart):List Nat:=row ((4,h.pc)::(List.range 31).map (fun i=>(4,h.x (i+1))))++row [(1,one h.wait)]
def sControl (c:Csr):List Nat:=row [(4,c.status),(4,c.enable),(4,c.vector),(4,c.scratch),(4,c.epc),(4,c.cause),(4,c.value),(8,c.count)]
def sPost (p:Post):List Nat:=row [(1,w64 p.dev),(4,p.at_),(1,w64 p.n),(4,p.value)]
def sQueue (q:List Post):List Nat:=row [(1,q.length)]++q.flatMap sPost
def sTimer (c:Clint):List Nat:=row [(1,c.soft),(8,c.time),(8,c.cmp)]
def sSources (p:Plic):List Nat:=row ((List.range 7).map (fun i=>(1,p.pri (i+1))))++row [(4,p.enable),(1,p.threshold),(4,p.pending),(4,p.busy)]
def fifoB (f:Fifo):List Nat:=if f.n<0∨16<f.n then [] else (List.range f.n.toNat).map f.b
def run (l:List Nat):List Nat:=le 4 l.length++l
def sPort (u:Uart):List Nat:=run (fifoB u.rx)++run (fifoB u.tx)++row [(1,u.ier),(1,u.lcr),(1,u.mcr),(1,u.scr),(1,u.dll),(1,u.dlm),(1,one u.over),(1,w64 u.wait)]
def sEngine (d:Dma):List Nat:=row [(1,d.code),(4,d.head),(4,d.at_),(1,d.steps),(4,d.moved),(1,one d.have_),(4,d.from_),(4,d.to),(4,d.left),(4,d.next),(1,one d.asks)]
def sQue (q:Que):List Nat:=row [(1,one q.ready),(2,w64 q.size),(4,q.desc),(4,q.avail),(4,q.used),(2,q.last),(2,q.put)]
def sSetting (p:Virt):List Nat:=row [(4,p.status),(4,p.feat),(4,p.drvsel),(4,p.sel),(4,p.irq),(4,p.drv0),(4,p.drv1)]++sQue p.q0++sQue p.q1
def sSeg (x:Seg):List Nat:=row [(4,x.at_),(4,w32 x.n)]
def sReq (r:Req):List Nat:=row [(4,r.id),(2,w64 r.head),(1,one r.write),(4,r.sector),(4,w32 r.n),(2,r.l.length)]++r.l.flatMap sSeg
def sDisk (b:Blk):List Nat:=row [(1,one b.bell),(4,b.next),(1,b.ins.length)]++b.ins.flatMap sReq
def sNet (n:Nic):List Nat:=row [(1,one n.bell),(4,n.lost)]
def parts (c:Config) (s:State):List (List Nat) :=
 [sConfig c,sTicks s,sRegs s.h,sControl s.h.c,sQueue s.q,sTimer s.c,sSources s.p,sPort s.u,sEngine s.d,sSetting s.b.p,sDisk s.b,sSetting s.n.p,sNet s.n]
def kW:Nat×Nat:=(4,4294967295)
def kB:Nat×Nat:=(1,255)
def kT:Nat×Nat:=(1,1)
def kH:Nat×Nat:=(2,18446744073709551615)
def kD:Nat×Nat:=(8,18446744073709551615)
def zCsr:Csr:=⟨0,0,0,0,0,0,0,0⟩
def zHart:Hart:=⟨0,fun _=>0,false,zCsr⟩
def zon:Fifo:=⟨fun _=>0,0⟩
def zUart:Uart:=⟨zon,zon,0,0,0,0,0,0,false,0⟩
def zQue:Que:=⟨false,0,0,0,0,0,0⟩
def zVirt:Virt:=⟨0,0,0,0,0,0,0,zQue,zQue⟩
def zState:State:=⟨0,zHart,[],⟨0,0,0⟩,⟨fun _=>0,0,0,0,0⟩,zUart,⟨0,0,0,0,0,false,0,0,0,0,false⟩,⟨zVirt,0,false,0,[]⟩,⟨zVirt,false,0⟩⟩
def zConfig:Config:=⟨0,0⟩
def at_ (l:List Nat) (i:Nat):Nat:=l.getD i 0
def tConfig (i:In):In×Nat×Nat:=((takes i [kW,kW]).1,at_ (takes i [kW,kW]).2 0,at_ (takes i [kW,kW]).2 1)
def kRegs:List (Nat×Nat):=List.replicate 32 kW++[kT]
def tRegs (i:In) (h:Hart):In×Hart :=
 let r:=takes i kRegs
 (r.1,⟨at_ r.2 0,fun j=>if 1≤j∧j<32 then at_ r.2 j else h.x j,at_ r.2 32==1,h.c⟩)
def tControl (i:In):In×Csr :=
 let r:=takes i [kW,kW,kW,kW,kW,kW,kW,kD]
 (r.1,⟨at_ r.2 0,at_ r.2 1,at_ r.2 2,at_ r.2 3,at_ r.2 4,at_ r.2 5,at_ r.2 6,at_ r.2 7⟩)
def tPost (i:In):In×Post :=
 let r:=takes i [kB,kW,kB,kW]
 (r.1,⟨at_ r.2 0,at_ r.2 1,at_ r.2 2,at_ r.2 3⟩)
def many {α:Type} (t:In→In×α):Nat→In→In×List α
 | 0,i=>(i,[])
 | n+1,i=>((many t n (t i).1).1,(t i).2::(many t n (t i).1).2)
def tQueue (i:In) (q:List Post):In×List Post :=
 let n:=takeN i 1 8
 let r:=many tPost n.2 n.1
 (r.1,q++r.2)
def tTimer (i:In):In×Clint :=
 let r:=takes i [kB,kD,kD]
 (r.1,⟨at_ r.2 0,at_ r.2 1,at_ r.2 2⟩)
def tSources (i:In):In×Plic :=
 let r:=takes i (List.replicate 7 kB++[kW,kB,kW,kW])
 (r.1,⟨fun j=>if 1≤j∧j<8 then at_ r.2 (j-1) else 0,at_ r.2 7,at_ r.2 8,at_ r.2 9,at_ r.2 10⟩)
def tFifo (i:In):In×Fifo :=
 let r:=takeRun i 16
 (r.1,⟨at_ r.2,r.2.length⟩)
def tPort (i:In):In×Uart :=
 let a:=tFifo i
 let b:=tFifo a.1
 let r:=takes b.1 [kB,kB,kB,kB,kB,kB,kT,kB]
 (r.1,⟨a.2,b.2,at_ r.2 0,at_ r.2 1,at_ r.2 2,at_ r.2 3,at_ r.2 4,at_ r.2 5,at_ r.2 6==1,at_ r.2 7⟩)
def tEngine (i:In):In×Dma :=
 let r:=takes i [kB,kW,kW,kB,kW,kT,kW,kW,kW,kW,kT]
 (r.1,⟨at_ r.2 0,at_ r.2 1,at_ r.2 2,at_ r.2 3,at_ r.2 4,at_ r.2 5==1,at_ r.2 6,at_ r.2 7,at_ r.2 8,at_ r.2 9,at_ r.2 10==1⟩)
def kQue:List (Nat×Nat):=[kT,kH,kW,kW,kW,kH,kH]
def tQue (i:In):In×Que :=
 let r:=takes i kQue
 (r.1,⟨at_ r.2 0==1,at_ r.2 1,at_ r.2 2,at_ r.2 3,at_ r.2 4,at_ r.2 5,at_ r.2 6⟩)
def tSetting (i:In):In×Virt :=
 let r:=takes i [kW,kW,kW,kW,kW,kW,kW]
 let a:=tQue r.1
 let b:=tQue a.1
 (b.1,⟨at_ r.2 0,at_ r.2 1,at_ r.2 2,at_ r.2 3,at_ r.2 4,at_ r.2 5,at_ r.2 6,a.2,b.2⟩)
def tSeg (i:In):In×Seg :=
 let r:=takes i [kW,kW]
 (r.1,⟨at_ r.2 0,at_ r.2 1,true⟩)
def tReq (i:In):In×Req :=
 let r:=takes i [kW,kH,kT,kW,kW]
 let n:=takeN r.1 2 256
 let l:=many tSeg n.2 n.1
 (l.1,⟨at_ r.2 0,at_ r.2 1,at_ r.2 2==1,at_ r.2 3,at_ r.2 4,l.2⟩)
def tDisk (i:In):In×Bool×Nat×List Req :=
 let r:=takes i [kT,kW]
 let n:=takeN r.1 1 8
 let l:=many tReq n.2 n.1
 (l.1,at_ r.2 0==1,at_ r.2 1,l.2)
def tNet (i:In):In×Bool×Nat :=
 let r:=takes i [kT,kW]
 (r.1,at_ r.2 0==1,at_ r.2 1)
def section_ (tag:Nat) (i:In) (c:Config) (s:State):In×Config×State :=
 if tag=1 then ((tConfig i).1,⟨(tConfig i).2.1,(tConfig i).2.2⟩,{ s with b:={ s.b with sectors:=(tConfig i).2.2 } })
 else if tag=2 then ((takeN i 8 18446744073709551615).1,c,{ s with ticks:=(takeN i 8 18446744073709551615).2 })
 else if tag=3 then ((tRegs i s.h).1,c,{ s with h:=(tRegs i s.h).2 })
 else if tag=4 then ((tControl i).1,c,{ s with h:={ s.h with c:=(tControl i).2 } })
 else if tag=5 then ((tQueue i s.q).1,c,{ s with q:=(tQueue i s.q).2 })
 else if tag=6 then ((tTimer i).1,c,{ s with c:=(tTimer i).2 })
 else if tag=7 then ((tSources i).1,c,{ s with p:=(tSources i).2 })
 else if tag=8 then ((tPort i).1,c,{ s with u:=(tPort i).2 })
 else if tag=9 then ((tEngine i).1,c,{ s with d:=(tEngine i).2 })
 else if tag=10 then ((tSetting i).1,c,{ s with b:={ s.b with p:=(tSetting i).2 } })
 else if tag=11 then ((tDisk i).1,c,{ s with b:={ s.b with bell:=(tDisk i).2.1,next:=(tDisk i).2.2.1,ins:=s.b.ins++(tDisk i).2.2.2 } })
 else if tag=12 then ((tSetting i).1,c,{ s with n:={ s.n with p:=(tSetting i).2 } })
 else ((tNet i).1,c,{ s with n:={ s.n with bell:=(tNet i).2.1,lost:=(tNet i).2.2 } })
def sections (k:Nat):List (List Nat)→Config→State→Option (Config×State)
 | [],c,s=>some (c,s)
 | b::l,c,s=>if done (section_ k ⟨b,0⟩ c s).1=0 then sections (k+1) l (section_ k ⟨b,0⟩ c s).2.1 (section_ k ⟨b,0⟩ c s).2.2 else none
end So
end Go.Proofs.YtdffbihilhkkjaaGreatDoor
